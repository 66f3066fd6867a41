/- The plain law behind CharsKinds: the mark and the text of a kind are the reference's. -/
import Derived.Test.YthecjfkafpndoaaRefFrom
import Derived.Test.YthecjfkafpndoaaPureCharsCleans
import Derived.Test.YthecjfkafpndoaaQCharsKinds
namespace Go.Proofs.Ythecjfkafpndoaa.Pure
open Go Go.RowKit Go.Proofs.YthecjfkafpndoaaW.PrintWords Go.Proofs.YthecjfkafpndoaaW.PrintLast Go.Proofs.YthecjfkafpndoaaW.PrintMore Go.Proofs.Ythecjfkafpndoaa.XCh Go.Proofs.Ythecjfkafpndoaa.Sg Go.Proofs.Ythecjfkafpndoaa.Ch Go.Proofs.Ythecjfkafpndoaa.L
set_option maxRecDepth 100000

theorem scan_val (x7 x : Int) (h7 : 55296 ≤ x7 ∧ x7 ≤ 56319) (hx : 56320 ≤ x ∧ x ≤ 57343) : wrap32 (wrap64 ((wrap64 ((wrap64 (65536 + (wrap64 (1024 * (wrap64 (x7 - 55296)))))) + x)) - 56320)) = 65536 + 1024 * (x7 - 55296) + x - 56320 := by
  rw [ww (x7 - 55296) (by omega) (by omega), ww (1024 * (x7 - 55296)) (by omega) (by omega), ww (65536 + 1024 * (x7 - 55296)) (by omega) (by omega), ww (65536 + 1024 * (x7 - 55296) + x) (by omega) (by omega), ww (65536 + 1024 * (x7 - 55296) + x - 56320) (by omega) (by omega)]
  unfold wrap32
  omega

theorem unit_val (a b : Int) (ha : 0 ≤ a ∧ a ≤ 255) (hb : 0 ≤ b ∧ b ≤ 255) : wrap64 ((wrap64 (256 * (wrap64 a))) + (wrap64 b)) = 256 * a + b ∧ wrap64 ((wrap64 b) + (wrap64 (256 * (wrap64 a)))) = 256 * a + b := by
  rw [ww a (by omega) (by omega), ww b (by omega) (by omega), ww (256 * a) (by omega) (by omega), ww (256 * a + b) (by omega) (by omega), ww (b + 256 * a) (by omega) (by omega)]
  exact ⟨rfl, Int.add_comm _ _⟩

theorem ref_froml (s : ByteArray) (hs : s.size ≤ 100000) (kind h : Int) (hkind : kind = 2 ∧ h = 0 ∨ kind = 3 ∧ h = 1) (r : ByteArray) (B d : Nat) : ∀ (i : Nat) (x6 : List Int) (x7 : Int), s.size - i ≤ d → i ≤ s.size → x6.length ≤ i →
    (x7 = -1 ∨ (55296 ≤ x7 ∧ x7 ≤ 56319) ∧ 1 ≤ x6.length) → (∀ k, B < k → clerestoryref1_CharsEncode.f k (rfu x6 x7 (us h ((bytesOf s).drop i)) ++ tailO (s.size - i)) = some r) → ∀ k, B + 3 * d + 3 < k →
    clerestoryref1_CharsFrom.l0 k s kind x6 x7 (i : Int) = some (r, 0) := by
  induction d with
  | zero =>
    intro i x6 x7 hd hi hx h7 H k hk
    obtain ⟨k, rfl⟩ : ∃ q, k = q + 1 := ⟨k - 1, by omega⟩
    rw [us_short s h i (by omega), show s.size - i = 0 by omega, show tailO 0 = [] from rfl, List.append_nil] at H
    rw [clerestoryref1_CharsFrom.l0, if_neg (by omega)]
    simp only [rfu] at H
    rw [H k (by omega)]
    rfl
  | succ d ih =>
    intro i x6 x7 hd hi hx h7 H k hk
    obtain ⟨k, rfl⟩ : ∃ q, k = q + 3 := ⟨k - 3, by omega⟩
    by_cases c0 : i = s.size
    · rw [us_short s h i (by omega), show s.size - i = 0 by omega, show tailO 0 = [] from rfl, List.append_nil] at H
      rw [clerestoryref1_CharsFrom.l0, if_neg (by omega)]
      simp only [rfu] at H
      rw [H _ (by omega)]
      rfl
    have hlt : i < s.size := by omega
    rw [clerestoryref1_CharsFrom.l0, if_pos (by omega), if_neg (by omega), wrap_i i (by omega)]
    by_cases c1 : i + 1 = s.size
    · rw [if_pos (by omega), if_pos (by omega)]
      rw [us_short s h i (by omega), show s.size - i = 1 by omega, show tailO 1 = [65533] from rfl] at H
      refine ih (i + 1) (x6 ++ [65533]) x7 (by omega) (by omega) (by simp only [List.length_append, List.length_cons, List.length_nil]; omega) ?_ ?_ _ (by omega)
      · rcases h7 with h7 | h7
        · exact .inl h7
        · exact .inr ⟨h7.1, by rw [List.length_append]; omega⟩
      · intro k hk
        rw [us_short s h (i + 1) (by omega), show s.size - (i + 1) = 0 by omega, show tailO 0 = [] from rfl, List.append_nil]
        simp only [rfu] at H ⊢
        exact H k hk
    rw [if_neg (by omega), if_pos (by omega), if_pos (by omega), if_pos (by omega)]
    have ra := bt_range s (i : Int)
    have rb := bt_range s ((i + 1 : Nat) : Int)
    rw [two s i (by omega), us, show tailO (s.size - i) = tailO (s.size - (i + 2)) by unfold tailO; rw [show s.size - i = s.size - (i + 2) + 2 by omega, Nat.add_mod_right]] at H
    -- the scan's step, at whatever unit
    have step : ∀ x, 0 ≤ x ∧ x ≤ 65535 → (∀ k, B < k → clerestoryref1_CharsEncode.f k (rfu x6 x7 (x :: us h ((bytesOf s).drop (i + 2))) ++ tailO (s.size - (i + 2))) = some r) → clerestoryref1_CharsFrom.j1 (k + 2) s kind x6 x7 (i : Int) x = some (r, 0) := by
      intro x hxr H
      clear ra rb
      have w2 : wrap64 (((i + 1 : Nat) : Int) + 1) = ((i + 2 : Nat) : Int) := wrap_i (i + 1) (by omega)
      have j2 : ∀ b : Bool, (b = true ↔ x7 ≥ 0 ∧ 56320 ≤ x ∧ x ≤ 57343) → clerestoryref1_CharsFrom.j2 (k + 1) s kind x6 x7 ((i + 1 : Nat) : Int) x b = some (r, 0) := by
        intro b hb
        rw [clerestoryref1_CharsFrom.j2]
        by_cases c : b = true
        · have hc := hb.1 c
          have h7' : (55296 ≤ x7 ∧ x7 ≤ 56319) ∧ 1 ≤ x6.length := by
            rcases h7 with h7 | h7
            · omega
            · exact h7
          have w3 : wrap64 ((x6.length : Int) - 1) = ((x6.length - 1 : Nat) : Int) := by unfold wrap64; omega
          rw [if_pos c, w3, if_pos (by omega), if_pos (by omega), scan_val x7 x h7'.1 hc.2, w2, Int.toNat_natCast]
          simp only [rfu] at H
          rw [if_pos hc] at H
          exact ih (i + 2) _ (-1) (by omega) (by omega) (by rw [List.length_set]; omega) (.inl rfl) H k (by omega)
        · have hc : ¬ (x7 ≥ 0 ∧ 56320 ≤ x ∧ x ≤ 57343) := fun h => c (hb.2 h)
          simp only [rfu] at H
          rw [if_neg hc] at H
          rw [if_neg c, ref_between, w2]
          simp only [Option.bind_some]
          have IH := fun y y7 h7 H => ih (i + 2) (x6 ++ [y]) y7 (by omega) (by omega) (by simp only [List.length_append, List.length_cons, List.length_nil]; omega) h7 H k (by omega)
          by_cases d1 : 55296 ≤ x ∧ x ≤ 56319
          · rw [if_pos (decide_eq_true d1), ref_between]
            simp only [Option.bind_some]
            rw [if_pos (decide_eq_true (by omega)), if_pos (by omega)]
            rw [if_pos d1, show fix x = 65533 by unfold fix; rw [if_pos (by omega)]] at H
            exact IH 65533 x (.inr ⟨d1, by rw [List.length_append]; simp⟩) H
          · rw [if_neg (by simpa using d1), ref_between]
            simp only [Option.bind_some]
            rw [if_neg d1] at H
            by_cases d2 : 55296 ≤ x ∧ x ≤ 57343
            · rw [if_pos (decide_eq_true d2), if_pos (by omega)]
              rw [show fix x = 65533 by unfold fix; rw [if_pos d2]] at H
              exact IH 65533 (-1) (.inl rfl) H
            · rw [if_neg (by simpa using d2), if_pos (by omega), show wrap32 x = x by unfold wrap32; omega]
              rw [show fix x = x by unfold fix; rw [if_neg d2]] at H
              exact IH x (-1) (.inl rfl) H
      rw [clerestoryref1_CharsFrom.j1, wrap_i i (by omega)]
      by_cases c : x7 ≥ 0
      · rw [if_pos c, ref_between]
        simp only [Option.bind_some]
        exact j2 _ (by simp [c])
      · rw [if_neg c]
        exact j2 _ (by simp [c])
    rcases hkind with ⟨rfl, rfl⟩ | ⟨rfl, rfl⟩
    · rw [if_neg (by decide), (unit_val _ _ ra rb).1]
      exact step _ (by omega) H
    · rw [if_pos rfl, (unit_val _ _ rb ra).2]
      exact step _ (by omega) H

theorem ref_from4 (s : ByteArray) (hs : s.size ≤ 100000) (r : ByteArray) (B d : Nat) : ∀ (i : Nat) (x6 : List Int), s.size - i ≤ d → i ≤ s.size → x6.length ≤ i →
    (∀ k, B < k → clerestoryref1_CharsEncode.f k (x6 ++ (bytesOf s).drop i) = some r) → ∀ k, B + d + 1 < k → clerestoryref1_CharsFrom.l0 k s 4 x6 (-1) (i : Int) = some (r, 0) := by
  induction d with
  | zero =>
    intro i x6 hd hi hx H k hk
    obtain ⟨k, rfl⟩ : ∃ q, k = q + 1 := ⟨k - 1, by omega⟩
    rw [List.drop_eq_nil_of_le (by rw [bytes_length]; omega), List.append_nil] at H
    rw [clerestoryref1_CharsFrom.l0, if_neg (by omega), H _ (by omega)]
    rfl
  | succ d ih =>
    intro i x6 hd hi hx H k hk
    obtain ⟨k, rfl⟩ : ∃ q, k = q + 1 := ⟨k - 1, by omega⟩
    by_cases c0 : i = s.size
    · rw [List.drop_eq_nil_of_le (by rw [bytes_length]; omega), List.append_nil] at H
      rw [clerestoryref1_CharsFrom.l0, if_neg (by omega), H _ (by omega)]
      rfl
    have hr := bt_range s (i : Int)
    rw [bt_bytes s i (by omega)] at H
    rw [clerestoryref1_CharsFrom.l0, if_pos (by omega), if_pos rfl, if_pos (by omega), if_pos (by omega), wrap_i i (by omega), show wrap32 (bt s (i : Int)) = bt s (i : Int) by unfold wrap32; omega]
    refine ih (i + 1) _ (by omega) (by omega) (by simp only [List.length_append, List.length_cons, List.length_nil]; omega) ?_ k (by omega)
    intro k hk
    rw [List.append_assoc]
    exact H k hk

theorem from4 (s : ByteArray) (hs : s.size ≤ 100000) (d : Nat) : ∀ (i : Nat) (x6 : List Int) (r : ByteArray), s.size - i ≤ d → i ≤ s.size → x6.length ≤ i →
    chars_Encode.f (x6 ++ (bytesOf s).drop i) = some r → ∀ k, d + 1 < k → chars_From.l0 k s x6 (s.size : Int) (i : Int) = some (r, 0) := by
  induction d with
  | zero =>
    intro i x6 r hd hi hx H k hk
    obtain ⟨k, rfl⟩ : ∃ q, k = q + 1 := ⟨k - 1, by omega⟩
    rw [List.drop_eq_nil_of_le (by rw [bytes_length]; omega), List.append_nil] at H
    rw [chars_From.l0, if_neg (by omega), H]
    rfl
  | succ d ih =>
    intro i x6 r hd hi hx H k hk
    obtain ⟨k, rfl⟩ : ∃ q, k = q + 1 := ⟨k - 1, by omega⟩
    by_cases c0 : i = s.size
    · rw [List.drop_eq_nil_of_le (by rw [bytes_length]; omega), List.append_nil] at H
      rw [chars_From.l0, if_neg (by omega), H]
      rfl
    have hr := bt_range s (i : Int)
    rw [bt_bytes s i (by omega)] at H
    rw [chars_From.l0, if_pos (by omega), if_pos (by omega), if_pos (by omega), if_pos (by omega), wrap_i i (by omega), show wrap32 (bt s (i : Int)) = bt s (i : Int) by unfold wrap32; omega]
    refine ih (i + 1) _ r (by omega) (by omega) (by simp only [List.length_append, List.length_cons, List.length_nil]; omega) ?_ k (by omega)
    rw [List.append_assoc]
    exact H

theorem enc_f (l : List Int) (hl : l.length ≤ 100000) (hr : ∀ x ∈ l, -2147483648 ≤ x ∧ x ≤ 2147483647) : chars_Encode.f l = some ⟨(bytesOfSigns l).toArray⟩ := by
  unfold chars_Encode.f
  rw [if_pos ⟨by omega, List.all_eq_true.2 fun x hx => decide_eq_true (hr x hx)⟩]

/-- What a text of a kind is. -/
def fromB (s : ByteArray) (kind : Int) : ByteArray × Int :=
  if 0 ≤ kind ∧ kind ≤ 4 then
    if s.size > 4000 then (⟨#[]⟩, 2) else
    if kind = 2 then (⟨(bytesOfSigns (pr (us 0 (bytesOf s)) ++ tailO s.size)).toArray⟩, 0) else
    if kind = 3 then (⟨(bytesOfSigns (pr (us 1 (bytesOf s)) ++ tailO s.size)).toArray⟩, 0) else
    if kind = 4 then (⟨(bytesOfSigns (bytesOf s)).toArray⟩, 0) else
    (⟨(bytesOfSigns (runes s)).toArray⟩, 0)
  else (⟨#[]⟩, 1)

theorem runes_i32 (s : ByteArray) : ∀ x ∈ runes s, -2147483648 ≤ x ∧ x ≤ 2147483647 := fun x hx => by
  have := runes_range s x hx
  omega
theorem tail_i32 (n : Nat) : ∀ x ∈ tailO n, -2147483648 ≤ x ∧ x ≤ 2147483647 := fun x hx => by
  unfold tailO at hx
  split at hx
  · obtain rfl : x = 65533 := by simpa using hx
    omega
  · simp at hx
theorem tail_len (n : Nat) : (tailO n).length ≤ 1 := by
  unfold tailO
  split
  · exact Nat.le_refl _
  · exact Nat.zero_le _
theorem pu_i32 (s : ByteArray) (h : Int) : ∀ x ∈ pr (us h (bytesOf s)), -2147483648 ≤ x ∧ x ≤ 2147483647 := fun x hx => by
  have := pr_mem _ (us_range h _ (isBytes_of s)) x hx
  omega
theorem pu_len (s : ByteArray) (h : Int) : (pr (us h (bytesOf s))).length ≤ s.size := by
  have h1 := pr_len (us h (bytesOf s))
  have h2 := us_len h (bytesOf s)
  rw [bytes_length] at h2
  omega

theorem from_two (s : ByteArray) (hs : s.size ≤ 4000) (kind h : Int) (hk : kind = 2 ∧ h = 0 ∨ kind = 3 ∧ h = 1) (k : Nat) (hkk : 10000 < k) (x19 : Int) (x6 : List Int) :
    chars_From.j1 k s kind x6 x19 true = some (⟨(bytesOfSigns (pr (us h (bytesOf s)) ++ tailO s.size)).toArray⟩, 0) := by
  obtain ⟨k, rfl⟩ : ∃ q, k = q + 1 := ⟨k - 1, by omega⟩
  have hw : wrap64 (kind - 2) = h := by unfold wrap64; omega
  have hh : h = 0 ∨ h = 1 := by omega
  have hl := us_len h (bytesOf s)
  rw [bytes_length] at hl
  have hp := pu_len s h
  have ht := tail_len s.size
  rw [chars_From.j1, if_pos rfl, hw]
  unfold chars_units.f chars_paired.f
  have e1 := units_l s (by omega) h hh s.size 0 [] (by omega) (by omega) (by simp) k (by omega)
  rw [show ((0 : Nat) : Int) = 0 from rfl, List.nil_append, List.drop_zero] at e1
  rw [e1]
  simp only [Option.bind_some]
  have e2 := paired_l (us h (bytesOf s)) (by omega) (us_range h _ (isBytes_of s)) s.size 0 [] (by omega) (by omega) (by simp) k (by omega)
  rw [show ((0 : Nat) : Int) = 0 from rfl, List.nil_append, List.drop_zero] at e2
  rw [e2]
  simp only [Option.bind_some]
  by_cases c : s.size % 2 = 1
  · rw [if_pos (by omega), if_pos (by omega), show tailO s.size = [65533] by unfold tailO; rw [if_pos c], enc_f _ (by rw [List.length_append]; simp only [List.length_cons, List.length_nil]; omega) ?_]
    · rfl
    · intro x hx
      rcases List.mem_append.1 hx with hx | hx
      · exact pu_i32 s h x hx
      · obtain rfl : x = 65533 := by simpa using hx
        omega
  · rw [if_neg (by omega), show tailO s.size = [] by unfold tailO; rw [if_neg c], List.append_nil, enc_f _ (by omega) (pu_i32 s h)]
    rfl

theorem from_eq (s : ByteArray) (kind : Int) (k : Nat) (hk : 20000 < k) : chars_From.f k s kind = some (fromB s kind) := by
  obtain ⟨k, rfl⟩ : ∃ q, k = q + 2 := ⟨k - 2, by omega⟩
  unfold chars_From.f fromB
  by_cases c0 : kind < 0
  · rw [if_pos c0, chars_From.j0, if_pos rfl, if_neg (by omega)]
  rw [if_neg c0, chars_From.j0]
  by_cases c1 : kind > 4
  · rw [if_pos (decide_eq_true c1), if_neg (by omega)]
  rw [if_neg (by simpa using c1), if_pos (show 0 ≤ kind ∧ kind ≤ 4 by omega)]
  by_cases cs : s.size > 4000
  · rw [if_pos (by omega), if_pos cs]
  rw [if_neg (by omega), if_neg cs]
  have j1 : ∀ h : Int, kind = 2 ∧ h = 0 ∨ kind = 3 ∧ h = 1 → _ := fun h hh => from_two s (by omega) kind h hh (k + 1) (by omega) kind []
  by_cases k2 : kind = 2
  · subst k2
    rw [if_pos rfl, if_pos rfl]
    exact j1 0 (.inl ⟨rfl, rfl⟩)
  rw [if_neg k2, if_neg k2]
  by_cases k3 : kind = 3
  · subst k3
    rw [if_pos rfl]
    exact j1 1 (.inr ⟨rfl, rfl⟩)
  rw [if_neg k3, chars_From.j1, if_neg (by simpa using k3)]
  by_cases k4 : kind = 4
  · rw [if_pos k4, if_pos k4]
    have := from4 s (by omega) s.size 0 [] _ (by omega) (by omega) (by simp) (by rw [List.nil_append, List.drop_zero]; exact enc_f _ (by rw [bytes_length]; omega) (fun x hx => by have := isBytes_of s x hx; omega)) k (by omega)
    exact this
  rw [if_neg k4, if_neg k4]
  have hl := runes_len s
  unfold chars_Decode.f
  rw [if_pos (by omega)]
  simp only [Option.bind_some]
  rw [enc_f _ (by omega) (runes_i32 s)]
  rfl

theorem ref_from_eq (s : ByteArray) (kind : Int) (k : Nat) (hk : 2000000000 < k) : clerestoryref1_CharsFrom.f k s kind = some (fromB s kind) := by
  unfold clerestoryref1_CharsFrom.f fromB
  rw [ref_between]
  simp only [Option.bind_some]
  by_cases c : 0 ≤ kind ∧ kind ≤ 4
  · rw [if_pos (decide_eq_true c), if_pos c]
    by_cases cs : s.size > 4000
    · rw [if_pos (by omega), if_pos cs]
    rw [if_neg (by omega), if_neg cs]
    have two : ∀ h : Int, kind = 2 ∧ h = 0 ∨ kind = 3 ∧ h = 1 → clerestoryref1_CharsFrom.l0 k s kind [] (-1) 0 = some (⟨(bytesOfSigns (pr (us h (bytesOf s)) ++ tailO s.size)).toArray⟩, 0) := by
      intro h hh
      refine ref_froml s (by omega) kind h hh _ 100000 s.size 0 [] (-1) (by omega) (by omega) (by simp) (.inl rfl) ?_ k (by omega)
      intro k hk
      have hp := pu_len s h
      have ht := tail_len s.size
      rw [List.drop_zero, Nat.sub_zero, (rfu_pr _ (us_range h _ (isBytes_of s))).1 [], List.nil_append, ref_enc _ (by rw [List.length_append, List.length_map]; omega) ?_ k (by rw [List.length_append, List.length_map]; omega), bytes_append, bytes_fix, ← bytes_append]
      intro x hx
      rcases List.mem_append.1 hx with hx | hx
      · obtain ⟨y, hy, rfl⟩ := List.mem_map.1 hx
        have := pu_i32 s h y hy
        unfold fix
        split <;> omega
      · exact tail_i32 _ x hx
    by_cases k2 : kind = 2
    · subst k2
      rw [if_neg (by decide), if_pos rfl]
      exact two 0 (.inl ⟨rfl, rfl⟩)
    rw [if_neg k2]
    by_cases k3 : kind = 3
    · subst k3
      rw [if_neg (by decide), if_pos rfl]
      exact two 1 (.inr ⟨rfl, rfl⟩)
    rw [if_neg k3]
    by_cases k4 : kind = 4
    · subst k4
      rw [if_neg (by decide), if_pos rfl]
      refine ref_from4 s (by omega) _ 100000 s.size 0 [] (by omega) (by omega) (by simp) ?_ k (by omega)
      intro k hk
      rw [List.nil_append, List.drop_zero]
      exact ref_enc _ (by rw [bytes_length]; omega) (fun x hx => by have := isBytes_of s x hx; omega) k (by rw [bytes_length]; omega)
    rw [if_neg k4, if_pos (by omega)]
    have hl := runes_len s
    have hq : 100 * s.size * s.size ≤ 100 * 4000 * 4000 := Nat.mul_le_mul (Nat.mul_le_mul (Nat.le_refl 100) (by omega)) (by omega)
    rw [ref_dec s (by omega) k (by omega)]
    simp only [Option.bind_some]
    rw [ref_enc _ (by omega) (runes_i32 s) k (by omega)]
    rfl
  · rw [if_neg (by simpa using c), if_neg c]

theorem prefix_eq (s p : ByteArray) : strings_HasPrefix.f s p = some (decide (s.data.toList.take p.data.toList.length = p.data.toList)) := by
  unfold strings_HasPrefix.f stringslite_HasPrefix.f
  have e0 : p.size = p.data.toList.length := by rw [Array.length_toList]; rfl
  have e1 : s.size = s.data.toList.length := by rw [Array.length_toList]; rfl
  by_cases c : (s.size : Int) ≥ (p.size : Int)
  · rw [if_pos c, if_pos (by omega), if_pos (by omega)]
    have e2 : (s.extract 0 (p.size : Int).toNat).toList = s.data.toList.take p.data.toList.length := by
      rw [Lib.toList_data, ← e0]
      simp [Array.toList_extract]
    rw [e2, Lib.toList_data]
    simp only [Option.bind_some]
    congr 1
    rw [Bool.eq_iff_iff]
    simp
  · rw [if_neg c]
    have : ¬ s.data.toList.take p.data.toList.length = p.data.toList := fun h => by
      have := congrArg List.length h
      rw [List.length_take] at this
      omega
    simp only [Option.bind_some]
    rw [decide_eq_false this]

theorem u8_lit (a b : UInt8) : ((a.toNat : Int) = (b.toNat : Int)) ↔ a = b := by
  constructor
  · intro h
    exact UInt8.toNat_inj.1 (by omega)
  · rintro rfl
    rfl

theorem sniff_eq (s : ByteArray) (k : Nat) (hk : 5 < k) : clerestoryref1_CharsSniff.f k s = chars_Sniff.f s := by
  obtain ⟨k, rfl⟩ : ∃ q, k = q + 2 := ⟨k - 2, by omega⟩
  unfold clerestoryref1_CharsSniff.f chars_Sniff.f
  simp only [prefix_eq, Option.bind_some, clerestoryref1_CharsSniff.j0, clerestoryref1_CharsSniff.j1]
  obtain ⟨⟨l⟩⟩ := s
  match l with
  | [] => simp [ByteArray.size]
  | [a] => simp [ByteArray.size]
  | [a, b] =>
    have b0 : bt ⟨⟨[a, b]⟩⟩ 0 = (a.toNat : Int) := rfl
    have b1 : bt ⟨⟨[a, b]⟩⟩ 1 = (b.toNat : Int) := rfl
    have A2 : ((a.toNat : Int) = 254) ↔ a = 254 := u8_lit a 254
    have A3 : ((a.toNat : Int) = 255) ↔ a = 255 := u8_lit a 255
    have B2 : ((b.toNat : Int) = 255) ↔ b = 255 := u8_lit b 255
    have B3 : ((b.toNat : Int) = 254) ↔ b = 254 := u8_lit b 254
    simp only [b0, b1, A2, A3]
    by_cases d2 : a = 254
    · subst d2
      by_cases e2 : b = 255 <;> simp [ByteArray.size, B2, e2]
    · by_cases d3 : a = 255
      · subst d3
        by_cases e3 : b = 254 <;> simp [ByteArray.size, B3, e3]
      · simp [ByteArray.size, d2, d3]
  | a :: b :: c :: t =>
    have b0 : bt ⟨⟨a :: b :: c :: t⟩⟩ 0 = (a.toNat : Int) := rfl
    have b1 : bt ⟨⟨a :: b :: c :: t⟩⟩ 1 = (b.toNat : Int) := rfl
    have b2 : bt ⟨⟨a :: b :: c :: t⟩⟩ 2 = (c.toNat : Int) := rfl
    have hs : ((⟨⟨a :: b :: c :: t⟩⟩ : ByteArray).size : Int) ≥ 3 := by
      show (((a :: b :: c :: t).length : Nat) : Int) ≥ 3
      simp only [List.length_cons]
      omega
    generalize hz : ((⟨⟨a :: b :: c :: t⟩⟩ : ByteArray).size : Int) = z at hs
    have A1 : ((a.toNat : Int) = 239) ↔ a = 239 := u8_lit a 239
    have A2 : ((a.toNat : Int) = 254) ↔ a = 254 := u8_lit a 254
    have A3 : ((a.toNat : Int) = 255) ↔ a = 255 := u8_lit a 255
    have B1 : ((b.toNat : Int) = 187) ↔ b = 187 := u8_lit b 187
    have B2 : ((b.toNat : Int) = 255) ↔ b = 255 := u8_lit b 255
    have B3 : ((b.toNat : Int) = 254) ↔ b = 254 := u8_lit b 254
    have C1 : ((c.toNat : Int) = 191) ↔ c = 191 := u8_lit c 191
    have z0 : 0 < z := by omega
    have z1 : 1 < z := by omega
    have z2 : 2 < z := by omega
    have z3 : z ≥ 2 := by omega
    simp only [b0, b1, b2, A1, A2, A3, B1, if_pos hs, if_pos z0, if_pos z1, if_pos z2, if_pos z3]
    clear hz hs z0 z1 z2 z3
    by_cases d1 : a = 239
    · subst d1
      by_cases e1 : b = 187
      · subst e1
        by_cases f1 : c = 191 <;> simp [C1, f1]
      · simp [e1]
    · by_cases d2 : a = 254
      · subst d2
        by_cases e2 : b = 255 <;> simp [B2, e2]
      · by_cases d3 : a = 255
        · subst d3
          by_cases e3 : b = 254 <;> simp [B3, e3]
        · simp [d1, d2, d3]

theorem sniff_some (s : ByteArray) : ∃ r, chars_Sniff.f s = some r := by
  unfold chars_Sniff.f
  simp only [prefix_eq, Option.bind_some]
  split
  · exact ⟨_, rfl⟩
  · split
    · exact ⟨_, rfl⟩
    · split <;> exact ⟨_, rfl⟩

theorem CharsKinds : clerestorylaw1_CharsKinds.Pure := by
  intro s kind _ _
  refine ⟨2000000001, ?_⟩
  obtain ⟨r, hr⟩ := sniff_some s
  unfold clerestorylaw1_CharsKinds.f
  rw [sniff_eq s _ (by decide), hr, from_eq s kind _ (by decide), ref_from_eq s kind _ (by decide), from_eq _ 5 _ (by decide), begun _ (by decide)]
  simp [fromB]
end Go.Proofs.Ythecjfkafpndoaa.Pure
