/- The plain law behind OpenScopes: a name in a scope, and the implied ends, answer as the reference's. -/
import Derived.Test.YthecjfkafpndoaaOpenLaws
import Derived.Test.YthecjfkafpndoaaQOpenScopes
namespace Go.Proofs.Ythecjfkafpndoaa.Pure
open Go.RowKit Go.Proofs.Ythecjfkafpndoaa.XOpen Go.Proofs.YthecjfkafpndoaaW.PrintWords Go.Proofs.YthecjfkafpndoaaW.PrintLast Go.Proofs.Ythecjfkafpndoaa.L
set_option maxRecDepth 100000

theorem b2_list : splitB c_b2 = splitB c_b0 ++ splitB c_r2 := by kernel_rfl
theorem b3_list : splitB c_b3 = splitB c_b0 ++ [[98, 117, 116, 116, 111, 110]] := by kernel_rfl

theorem rbar_eq (x : ByteArray) (sc : Int) (k : Nat) (hk : 2000 < k) : clerestoryref1_OpenBar.f k x sc = some (barB sc x.data.toList) := by
  unfold clerestoryref1_OpenBar.f barB
  by_cases h4 : sc = 4
  · subst h4
    rw [if_pos rfl, b4_word x k hk]; rfl
  rw [if_neg h4]
  by_cases h5 : sc = 5
  · subst h5
    rw [if_pos rfl, r5_word x k hk]; rfl
  rw [if_neg h5, b0_word x k hk]
  simp only [Option.bind_some]
  by_cases h2 : sc = 2
  · subst h2
    rw [if_pos rfl, if_pos rfl, r2_word x k hk, b2_list]
    by_cases h0 : x.data.toList ∈ splitB c_b0
    · simp [h0]
    · by_cases h1 : x.data.toList ∈ splitB c_r2 <;> simp [h0, h1]
  rw [if_neg h2, if_neg h2]
  by_cases h3 : sc = 3
  · subst h3
    rw [if_pos rfl, if_pos rfl, b3_list, Lib.toList_data]
    by_cases h0 : x.data.toList ∈ splitB c_b0
    · simp [h0]
    · by_cases h1 : x.data.toList = [98, 117, 116, 116, 111, 110] <;> simp [h0, h1]
  rw [if_neg h3, if_neg h3, if_neg h4, if_neg h5]
  by_cases h0 : x.data.toList ∈ splitB c_b0 <;> simp [h0]

theorem hasR_none (sc : Int) (n : List UInt8) : ∀ r : List (List UInt8), (∀ x ∈ r, x ≠ n) → hasR sc n r = false
  | [], _ => rfl
  | x :: t, h => by
    unfold hasR
    rw [if_neg (h x (by simp))]
    split
    · rfl
    · exact hasR_none sc n t (fun y hy => h y (by simp [hy]))

theorem hasR_some (sc : Int) (n : List UInt8) (r2 : List (List UInt8)) : ∀ r : List (List UInt8), (∀ x ∈ r, x ≠ n) → hasR sc n (r ++ n :: r2) = r.all (fun x => !barB sc x)
  | [], _ => by simp [hasR]
  | x :: t, h => by
    rw [List.cons_append]
    unfold hasR
    rw [if_neg (h x (by simp))]
    cases hb : barB sc x with
    | true => simp [hb]
    | false => simp [hb]; exact hasR_some sc n r2 t (fun y hy => h y (by simp [hy]))

/-- the place of the last n, counted from i on. -/
def lastF (n : List UInt8) : List ByteArray → Nat → Int → Int
  | [], _, a => a
  | x :: t, i, a => lastF n t (i + 1) (if x.data.toList = n then (i : Int) else a)

def finB (l : List ByteArray) (sc : Int) (a : Int) : Bool := if a < 0 then false else (l.drop (a + 1).toNat).all (fun x => !barB sc x.data.toList)

theorem in1_loop (l : List ByteArray) (hl : l.length ≤ 100000) (sc : Int) (d : Nat) : ∀ (k i : Nat), i ≤ l.length → l.length - i = d → d + 2001 < k →
    clerestoryref1_OpenIn.l1 k l sc (i : Int) = some ((l.drop i).all (fun x => !barB sc x.data.toList)) := by
  induction d with
  | zero =>
    intro k i hi hd hk
    obtain ⟨k, rfl⟩ : ∃ m, k = m + 1 := ⟨k - 1, by omega⟩
    rw [clerestoryref1_OpenIn.l1, if_neg (by omega), List.drop_eq_nil_of_le (by omega)]
    rfl
  | succ d ih =>
    intro k i hi hd hk
    obtain ⟨k, rfl⟩ : ∃ m, k = m + 1 := ⟨k - 1, by omega⟩
    have hlt : i < l.length := by omega
    rw [clerestoryref1_OpenIn.l1, if_pos (by omega), if_pos (by omega), rd_nat l i hlt, rbar_eq _ sc k (by omega), wrap_succ i (by omega), ih k (i + 1) (by omega) (by omega) (by omega)]
    simp only [Option.bind_some]
    have hdrop : l.drop i = l[i] :: l.drop (i + 1) := List.drop_eq_getElem_cons hlt
    rw [hdrop, List.all_cons]
    cases hb : barB sc l[i].data.toList with
    | true => rfl
    | false => rfl

theorem in0_loop (l : List ByteArray) (hl : l.length ≤ 100000) (n : ByteArray) (sc : Int) (d : Nat) : ∀ (k i : Nat) (a : Int), i ≤ l.length → l.length - i = d → d + l.length + 2005 < k → -1 ≤ a → a < i →
    clerestoryref1_OpenIn.l0 k l n sc a (i : Int) = some (finB l sc (lastF n.data.toList (l.drop i) i a)) := by
  induction d with
  | zero =>
    intro k i a hi hd hk h1 h2
    obtain ⟨k, rfl⟩ : ∃ m, k = m + 1 := ⟨k - 1, by omega⟩
    rw [clerestoryref1_OpenIn.l0, if_neg (by omega), List.drop_eq_nil_of_le (by omega)]
    unfold lastF finB
    by_cases ha : a < 0
    · rw [if_pos ha, if_pos ha]
    · rw [if_neg ha, if_neg ha]
      obtain ⟨m, rfl⟩ := Int.eq_ofNat_of_zero_le (show 0 ≤ a by omega)
      rw [wrap_succ m (by omega), in1_loop l hl sc (l.length - (m + 1)) k (m + 1) (by omega) rfl (by omega)]
      rfl
  | succ d ih =>
    intro k i a hi hd hk h1 h2
    obtain ⟨k, rfl⟩ : ∃ m, k = m + 1 := ⟨k - 1, by omega⟩
    have hlt : i < l.length := by omega
    have hdrop : l.drop i = l[i] :: l.drop (i + 1) := List.drop_eq_getElem_cons hlt
    rw [clerestoryref1_OpenIn.l0, if_pos (by omega), if_pos (by omega), rd_nat l i hlt, wrap_succ i (by omega), Lib.toList_data, Lib.toList_data, hdrop]
    unfold lastF
    by_cases h : l[i].data.toList = n.data.toList
    · rw [if_pos h, if_pos h]
      exact ih k (i + 1) i (by omega) (by omega) (by omega) (by omega) (by omega)
    · rw [if_neg h, if_neg h]
      exact ih k (i + 1) a (by omega) (by omega) (by omega) (by omega) (by omega)

theorem lastF_none (n : List UInt8) : ∀ (l : List ByteArray) (i : Nat) (a : Int), (∀ x ∈ l, x.data.toList ≠ n) → lastF n l i a = a
  | [], _, _, _ => rfl
  | x :: t, i, a, h => by
    unfold lastF
    rw [if_neg (h x (by simp))]
    exact lastF_none n t _ _ (fun y hy => h y (by simp [hy]))

theorem lastF_some (n : List UInt8) (y : ByteArray) (hy : y.data.toList = n) (B : List ByteArray) (hB : ∀ x ∈ B, x.data.toList ≠ n) : ∀ (l : List ByteArray) (i : Nat) (a : Int), lastF n (l ++ y :: B) i a = ((i + l.length : Nat) : Int)
  | [], i, a => by
    simp only [List.nil_append]
    unfold lastF
    rw [if_pos hy, lastF_none n B _ _ hB]
    simp
  | x :: t, i, a => by
    rw [List.cons_append]
    unfold lastF
    rw [lastF_some n y hy B hB t]
    simp only [List.length_cons]
    omega

theorem split_last (n : List UInt8) : ∀ l : List ByteArray, (∀ x ∈ l, x.data.toList ≠ n) ∨ ∃ A y B, l = A ++ y :: B ∧ y.data.toList = n ∧ ∀ x ∈ B, x.data.toList ≠ n
  | [] => .inl (by simp)
  | x :: t => by
    rcases split_last n t with h | ⟨A, y, B, rfl, hy, hB⟩
    · by_cases hx : x.data.toList = n
      · exact .inr ⟨[], x, t, rfl, hx, h⟩
      · refine .inl (fun z hz => ?_)
        rcases List.mem_cons.1 hz with rfl | hz
        · exact hx
        · exact h z hz
    · exact .inr ⟨x :: A, y, B, rfl, hy, hB⟩

theorem rin_eq (l : List ByteArray) (hl : l.length ≤ 1000) (n : ByteArray) (sc : Int) (k : Nat) (hk : 5000 < k) :
    clerestoryref1_OpenIn.f k l n sc = some (hasR sc n.data.toList (l.reverse.map (·.data.toList))) := by
  unfold clerestoryref1_OpenIn.f
  have h := in0_loop l (by omega) n sc l.length k 0 (-1) (Nat.zero_le _) rfl (by omega) (by omega) (by omega)
  rw [show ((0 : Nat) : Int) = 0 from rfl] at h
  rw [h, List.drop_zero]
  congr 1
  rcases split_last n.data.toList l with h0 | ⟨A, y, B, rfl, hy, hB⟩
  · rw [lastF_none _ _ _ _ h0, hasR_none]
    · rfl
    · intro x hx
      simp only [List.mem_map, List.mem_reverse] at hx
      obtain ⟨z, hz, rfl⟩ := hx
      exact h0 z hz
  · rw [lastF_some _ y hy B hB]
    unfold finB
    rw [if_neg (by omega)]
    have e : (((0 + A.length : Nat) : Int) + 1).toNat = A.length + 1 := by omega
    rw [e]
    have e2 : (A ++ y :: B).drop (A.length + 1) = B := by
      rw [List.drop_append]
      simp
    rw [e2, List.reverse_append, List.reverse_cons, List.map_append, List.map_append, List.append_assoc]
    simp only [List.map_cons, List.map_nil, List.cons_append, List.nil_append, hy]
    rw [hasR_some]
    · simp only [List.all_map, List.all_reverse]
      rfl
    · intro x hx
      simp only [List.mem_map, List.mem_reverse] at hx
      obtain ⟨z, hz, rfl⟩ := hx
      exact hB z hz

theorem rimplied_eq (n : ByteArray) (m : Nat) : ∀ (l : List ByteArray) (k : Nat), l.length = m → m ≤ 1000 → m + 2001 < k →
    clerestoryref1_OpenImplied.f k l n = some (endsR n.data.toList (l.reverse.map (·.data.toList)) : Int) := by
  induction m with
  | zero =>
    intro l k hl _ hk
    obtain ⟨k, rfl⟩ : ∃ m, k = m + 1 := ⟨k - 1, by omega⟩
    have : l = [] := List.length_eq_zero_iff.1 hl
    subst this
    rw [clerestoryref1_OpenImplied.f, if_pos (by simp)]
    rfl
  | succ m ih =>
    intro l k hl hm hk
    obtain ⟨k, rfl⟩ : ∃ m, k = m + 1 := ⟨k - 1, by omega⟩
    have w : wrap64 ((l.length : Int) - 1) = (m : Int) := by unfold wrap64; omega
    have hlt : m < l.length := by omega
    rw [clerestoryref1_OpenImplied.f, if_neg (by omega), w, if_pos (by omega), if_pos (by omega), rd_nat l m hlt, im_word _ k (by omega), Lib.toList_data, Lib.toList_data]
    have e : l.reverse.map (·.data.toList) = l[m].data.toList :: ((l.take m).reverse.map (·.data.toList)) := by
      rw [← take_rev l m hlt, List.take_of_length_le (by omega)]
    rw [e]
    unfold endsR
    by_cases h : l[m].data.toList = n.data.toList
    · rw [if_pos h, if_pos h]; rfl
    · rw [if_neg h, if_neg h]
      simp only [Option.bind_some]
      by_cases hb : l[m].data.toList ∈ splitB c_im
      · rw [if_pos (by simpa using hb), if_pos hb, if_pos (by omega)]
        simp only [Int.toNat_natCast]
        rw [ih (l.take m) k (by rw [List.length_take]; omega) (by omega) (by omega)]
        simp only [Option.bind_some]
        have hle := endsR_le n.data.toList ((l.take m).reverse.map (·.data.toList))
        simp only [List.length_map, List.length_reverse, List.length_take] at hle
        congr 1
        unfold wrap64
        omega
      · rw [if_neg (by simpa using hb), if_neg hb]; rfl

theorem OpenScopes : clerestorylaw1_OpenScopes.Pure := by
  intro l0 n sc hl _ _
  refine ⟨9000, ?_⟩
  have e : mn (l0.length : Int) 80 = ((min l0.length 80 : Nat) : Int) := by unfold mn; omega
  unfold clerestorylaw1_OpenScopes.f
  rw [e, if_pos (by omega), if_pos (by omega)]
  simp only [Int.toNat_natCast]
  have hlen : (l0.take (min l0.length 80)).length ≤ 80 := by rw [List.length_take]; omega
  have hx : ∀ x ∈ l0.take (min l0.length 80), x.size ≤ 140737488355328 := by
    intro x hx
    have h1 := hl.2.2 x (List.mem_of_mem_take hx)
    have h2 : x.size ≤ reachBytes := h1
    unfold reachBytes at h2
    omega
  generalize l0.take (min l0.length 80) = l at hlen hx
  have hr : clerestoryref1_OpenErr.f l = some (if (l.length : Int) > 60 then 2 else 0) := by
    unfold clerestoryref1_OpenErr.f
    split <;> rfl
  rw [in_eq l (by omega) hx n sc 9000 (by omega), implied_eq l (by omega) hx n 9000 (by omega), hr]
  simp only [Option.bind_some]
  by_cases h1 : sc < 1
  · rw [if_pos h1, if_pos (.inl h1), clerestorylaw1_OpenScopes.j0, if_pos rfl, clerestorylaw1_OpenScopes.j1]
    by_cases h6 : (l.length : Int) > 60
    · simp only [if_pos h6]
      rw [if_neg (by decide), begun_eq _ (by omega)]
      rfl
    · simp only [if_neg h6]
      rw [if_pos trivial, rimplied_eq n l.length l _ rfl (by omega) (by omega), begun_eq _ (by omega)]
      simp
  · rw [if_neg h1, clerestorylaw1_OpenScopes.j0]
    by_cases h5 : sc > 5
    · rw [if_pos (decide_eq_true h5), if_pos (.inr h5), clerestorylaw1_OpenScopes.j1]
      by_cases h6 : (l.length : Int) > 60
      · simp only [if_pos h6]
        rw [if_neg (by decide), begun_eq _ (by omega)]
        rfl
      · simp only [if_neg h6]
        rw [if_pos trivial, rimplied_eq n l.length l _ rfl (by omega) (by omega), begun_eq _ (by omega)]
        simp
    · rw [if_neg (by simpa using h5), if_neg (show ¬ (sc < 1 ∨ sc > 5) by omega), rin_eq l (by omega) n sc _ (by omega)]
      simp only [Option.bind_some]
      by_cases h6 : (l.length : Int) > 60
      · simp only [if_pos h6]
        rw [if_neg (by decide), clerestorylaw1_OpenScopes.j1, if_neg (by decide), begun_eq _ (by omega)]
        rfl
      · simp only [if_neg h6]
        rw [if_pos trivial, clerestorylaw1_OpenScopes.j1, if_pos rfl, rimplied_eq n l.length l _ rfl (by omega) (by omega), begun_eq _ (by omega)]
        simp
end Go.Proofs.Ythecjfkafpndoaa.Pure
