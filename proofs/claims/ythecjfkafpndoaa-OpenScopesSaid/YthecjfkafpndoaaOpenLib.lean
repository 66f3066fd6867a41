/- The plain law behind OpenNames: each list of names, asked as a text with blanks, answers as the reference's split list does. No condition but the text's length. -/
import Derived.Test.YthecjfkafpndoaaXOpen1
import Derived.Test.YthecjfkafpndoaaXOpen2
import Derived.Test.YthecjfkafpndoaaLSplit
namespace Go.Proofs.Ythecjfkafpndoaa.Pure
open Go.RowKit Go.Proofs.Ythecjfkafpndoaa.XOpen Go.Proofs.YthecjfkafpndoaaW.PrintWords Go.Proofs.YthecjfkafpndoaaW.PrintLast Go.Proofs.Ythecjfkafpndoaa.L

theorem bt_nat (s : ByteArray) (i : Nat) (h : i < s.size) : bt s (i : Int) = ((s.data.toList[i]'(by simpa using h)).toNat : Int) := by
  have := bt_at s (i : Int) (by simpa using h)
  rw [← this]
  simp
  rfl

theorem wrap_succ (i : Nat) (h : i ≤ 1000000000000) : wrap64 ((i : Int) + 1) = ((i + 1 : Nat) : Int) := by
  unfold wrap64
  omega

theorem words_end (k : Nat) (s : ByteArray) (out : List ByteArray) (f : Int) (i : Nat) (h : s.size < i) : clerestoryref1_words.l0 (k + 1) s out f (i : Int) = some out := by
  simp only [clerestoryref1_words.l0]
  rw [if_neg (by omega)]

theorem words_loop (s : ByteArray) (hs : s.size ≤ 100000000) (d : Nat) : ∀ (k : Nat) (out : List ByteArray) (f i : Nat), i ≤ s.size → s.size - i = d → d + 1 < k → f ≤ i → out.length ≤ i →
    ∃ rest, clerestoryref1_words.l0 k s out (f : Int) (i : Int) = some (out ++ rest) ∧ rest.map (·.data.toList) = consHead ((s.data.toList.take i).drop f) (splitB (s.data.toList.drop i)) := by
  induction d with
  | zero =>
    intro k out f i hi hd hk hf ho
    obtain ⟨k, rfl⟩ : ∃ m, k = m + 1 + 1 := ⟨k - 2, by omega⟩
    have e : i = s.size := by omega
    refine ⟨[s.extract f i], ?_, ?_⟩
    · conv => lhs; unfold clerestoryref1_words.l0
      rw [if_pos (by omega), if_pos (by omega), if_pos (by omega), if_pos (by omega), if_pos (by omega), wrap_succ i (by omega)]
      rw [words_end k s _ _ (i + 1) (by omega)]
      simp
    · have : s.data.toList.drop i = [] := List.drop_eq_nil_of_le (by simp; exact Nat.le_of_eq e.symm)
      rw [this]
      simp only [List.map_cons, List.map_nil, splitB, consHead, List.append_nil]
      rw [Lib.extract_data, List.drop_take]
  | succ d ih =>
    intro k out f i hi hd hk hf ho
    obtain ⟨k, rfl⟩ : ∃ m, k = m + 1 := ⟨k - 1, by omega⟩
    have hlt : i < s.size := by omega
    have hlt' : i < s.data.toList.length := by simpa using hlt
    have hdrop : s.data.toList.drop i = s.data.toList[i] :: s.data.toList.drop (i + 1) := List.drop_eq_getElem_cons hlt'
    conv => enter [1, rest, 1, 1]; unfold clerestoryref1_words.l0
    rw [if_pos (by omega), if_neg (by omega), if_pos (by omega), if_pos (by omega), bt_nat s i hlt, wrap_succ i (by omega)]
    by_cases hb : s.data.toList[i] = 32
    · rw [if_pos (by rw [hb]; rfl), if_pos (by omega), if_pos (by omega), if_pos (by omega)]
      obtain ⟨rest, h1, h2⟩ := ih k (out ++ [s.extract f i]) (i + 1) (i + 1) (by omega) (by omega) (by omega) (by omega) (by simp; omega)
      refine ⟨s.extract f i :: rest, ?_, ?_⟩
      · simp only [Int.toNat_natCast]
        rw [h1]
        simp
      · rw [List.map_cons, h2, hdrop, hb, splitB_blank, List.drop_take_self, consHead_nil (splitB_ne _)]
        simp only [consHead, List.append_nil]
        rw [Lib.extract_data, List.drop_take]
    · rw [if_neg (by
        intro e
        apply hb
        have : (s.data.toList[i]).toNat = 32 := by omega
        exact UInt8.toNat_inj.1 this)]
      obtain ⟨rest, h1, h2⟩ := ih k out f (i + 1) (by omega) (by omega) (by omega) (by omega) (by omega)
      refine ⟨rest, h1, ?_⟩
      rw [h2, hdrop, splitB_other _ _ hb, consHead_app]
      congr 1
      rw [List.take_succ_eq_append_getElem hlt', List.drop_append_of_le_length (by simp; omega)]

theorem words_eq (s : ByteArray) (hs : s.size ≤ 100000000) (k : Nat) (hk : s.size + 1 < k) : ∃ ws, clerestoryref1_words.f k s = some ws ∧ ws.map (·.data.toList) = splitB s.data.toList := by
  obtain ⟨rest, h1, h2⟩ := words_loop s hs s.size k [] 0 0 (Nat.zero_le _) rfl hk (Nat.le_refl _) (Nat.le_refl _)
  refine ⟨rest, ?_, ?_⟩
  · unfold clerestoryref1_words.f
    simpa using h1
  · rw [h2]
    simp [consHead_nil (splitB_ne _)]

theorem word_loop (n : ByteArray) (ws : List ByteArray) (hl : ws.length ≤ 1000000000) (d : Nat) : ∀ (k i : Nat), i ≤ ws.length → ws.length - i = d → d < k →
    clerestoryref1_Word.l0 k n ws (i : Int) = some (decide (n.data.toList ∈ (ws.drop i).map (·.data.toList))) := by
  induction d with
  | zero =>
    intro k i hi hd hk
    obtain ⟨k, rfl⟩ : ∃ m, k = m + 1 := ⟨k - 1, by omega⟩
    simp only [clerestoryref1_Word.l0]
    rw [if_neg (by omega), List.drop_eq_nil_of_le (by omega)]
    simp
  | succ d ih =>
    intro k i hi hd hk
    obtain ⟨k, rfl⟩ : ∃ m, k = m + 1 := ⟨k - 1, by omega⟩
    have hlt : i < ws.length := by omega
    simp only [clerestoryref1_Word.l0]
    rw [if_pos (by omega), if_pos (by omega), wrap_succ i (by omega), ih k (i + 1) (by omega) (by omega) (by omega), List.drop_eq_getElem_cons hlt]
    have e : rdOf ByteArray.empty ws (i : Int) = ws[i] := by simp [rdOf, List.getD_eq_getElem?_getD, List.getElem?_eq_getElem hlt]
    rw [e, Lib.toList_data, Lib.toList_data]
    by_cases h : ws[i].data.toList = n.data.toList
    · rw [if_pos h]
      simp only [List.map_cons, List.mem_cons, h, true_or, decide_true]
    · rw [if_neg h]
      have h' : ¬ n.data.toList = ws[i].data.toList := fun e => h e.symm
      simp only [List.map_cons, List.mem_cons, h', false_or]

/-- The reference's Word. -/
theorem word_eq (n s : ByteArray) (hs : s.size ≤ 100000000) (k : Nat) (hk : s.size + 2 < k) : clerestoryref1_Word.f k n s = some (decide (n.data.toList ∈ splitB s.data.toList)) := by
  obtain ⟨ws, h1, h2⟩ := words_eq s hs k (by omega)
  unfold clerestoryref1_Word.f
  rw [h1]
  simp only [Option.bind_some]
  have hlen : ws.length ≤ s.size + 1 := by
    have h3 : ws.length = (splitB s.data.toList).length := by rw [← h2, List.length_map]
    have h4 : ∀ l : List UInt8, (splitB l).length ≤ l.length + 1 := by
      intro l
      induction l with
      | nil => simp [splitB]
      | cons c t ih =>
        by_cases h : c = 32
        · subst h; rw [splitB_blank]; simp; exact ih
        · rw [splitB_other c t h]
          cases hs : splitB t with
          | nil => exact absurd hs (splitB_ne t)
          | cons a b => rw [hs] at ih; simp [consHead] at ih ⊢; omega
    have := h4 s.data.toList
    rw [h3]
    simpa using this
  have := word_loop n ws (by omega) ws.length k 0 (Nat.zero_le _) rfl (by omega)
  rw [show ((0 : Nat) : Int) = 0 from rfl] at this
  rw [this, ← h2]
  simp

/-- open.One of a text with a blank at each end. -/
theorem one_eq (n : ByteArray) (hn : n.size ≤ 140737488355328) (L : ByteArray) (l : List UInt8) (hL : L.data.toList = 32 :: (l ++ [32])) (hl : L.size ≤ 100000000) (he : ([] : List UInt8) ∉ splitB l) :
    open_One.f n L = some (decide (n.data.toList ∈ splitB l)) := by
  unfold open_One.f
  rw [Lib.toList_data]
  by_cases h0 : n.data.toList = []
  · rw [if_pos h0, h0]
    simp [he]
  · rw [if_neg h0]
    unfold strings_Contains.f
    rw [if_pos (.inl rfl)]
    have e1 : Lib.contains n.data.toList (⟨#[32]⟩ : ByteArray).data.toList = decide ((32 : UInt8) ∈ n.data.toList) := contains_blank _
    rw [e1]
    simp only [Option.bind_some]
    by_cases h1 : (32 : UInt8) ∈ n.data.toList
    · have : ¬ n.data.toList ∈ splitB l := fun h => splitB_free l _ h h1
      simp [h1, this]
    · rw [if_neg (by simp [h1]), if_pos (by omega), if_pos (by omega), if_pos (.inr (by omega))]
      have e2 : (((⟨#[32]⟩ : ByteArray) ++ n) ++ (⟨#[32]⟩ : ByteArray)).data.toList = 32 :: (n.data.toList ++ [32]) := by
        simp
      rw [e2, hL, contains_pad _ _ h1]
      rfl
end Go.Proofs.Ythecjfkafpndoaa.Pure
