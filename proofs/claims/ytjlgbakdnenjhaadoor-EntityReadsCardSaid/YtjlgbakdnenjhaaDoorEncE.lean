/- The reference's encoding, for this print. Condition: at most 100000 signs, each within 32 bits. -/
import Derived.Test.YtjlgbakdnenjhaaDoorChars
import Derived.Test.YtjlgbakdnenjhaaDoorXEn2
import Derived.Test.YtjlgbakdnenjhaaDoorXEn3
import Derived.Test.YtjlgbakdnenjhaaDoorXEn5
import Derived.Laws.BitsLemmas
namespace Go.Proofs.YtjlgbakdnenjhaaDoor.LE
open Go Go.RowKit Go.Proofs.YtjlgbakdnenjhaaDoorW.PrintWords Go.Proofs.YtjlgbakdnenjhaaDoorW.PrintLast Go.Proofs.YtjlgbakdnenjhaaDoorW.PrintMore Go.Proofs.YtjlgbakdnenjhaaDoor.XEn Go.Proofs.YtjlgbakdnenjhaaDoor.Ch

theorem ref_between (a b c : Int) : clerestoryref1_between.f a b c = some (decide (b ≤ a ∧ a ≤ c)) := by
  unfold clerestoryref1_between.f
  by_cases h : a ≥ b
  · rw [if_pos h]; simp [h]
  · rw [if_neg h]; simp; omega

theorem wrap_i (i : Nat) (h : i ≤ 1000000) : wrap64 ((i : Int) + 1) = ((i + 1 : Nat) : Int) := by unfold wrap64; omega
theorem rd_int (l : List Int) (i : Nat) (h : i < l.length) : rd l (i : Int) = l[i] := by
  simp [rd, List.getD_eq_getElem?_getD, List.getElem?_eq_getElem h]

theorem q1 (x : Int) (h0 : 0 ≤ x) : Int.tdiv x 64 = x / 64 ∧ Int.tmod x 64 = x % 64 ∧ Int.tdiv x 4096 = x / 4096 ∧ Int.tdiv x 262144 = x / 262144 := ⟨Int.tdiv_eq_ediv_of_nonneg h0, Int.tmod_eq_emod_of_nonneg h0, Int.tdiv_eq_ediv_of_nonneg h0, Int.tdiv_eq_ediv_of_nonneg h0⟩
theorem ww (y : Int) (h0 : 0 ≤ y) (h1 : y ≤ 2000000) : wrap64 y = y := by unfold wrap64; omega
theorem last6 (x : Int) (h0 : 0 ≤ x) : (wrap64 (128 + (Int.tmod x 64))) % 256 = 128 + x % 64 := by
  rw [(q1 x h0).2.1, ww _ (by omega) (by omega)]
  omega
theorem mid6 (x : Int) (h0 : 0 ≤ x) (h1 : x ≤ 1114111) : (wrap64 (128 + (Int.tmod (wrap64 (Int.tdiv x 64)) 64))) % 256 = 128 + x / 64 % 64 := by
  rw [(q1 x h0).1, ww (x / 64) (by omega) (by omega), last6 (x / 64) (by omega)]
theorem high6 (x : Int) (h0 : 0 ≤ x) (h1 : x ≤ 1114111) : (wrap64 (128 + (Int.tmod (wrap64 (Int.tdiv x 4096)) 64))) % 256 = 128 + x / 4096 % 64 := by
  rw [(q1 x h0).2.2.1, ww (x / 4096) (by omega) (by omega), last6 (x / 4096) (by omega)]
theorem enc2 (x : Int) (h0 : 128 ≤ x) (h1 : x ≤ 2047) : ([(wrap64 (192 + (wrap64 (Int.tdiv x 64)))) % 256, (wrap64 (128 + (Int.tmod x 64))) % 256] : List Int) = [192 + x / 64, 128 + x % 64] := by
  rw [last6 x (by omega), (q1 x (by omega)).1, ww (x / 64) (by omega) (by omega), ww (192 + x / 64) (by omega) (by omega)]
  congr 1
  omega
theorem enc3 (x : Int) (h0 : 2048 ≤ x) (h1 : x ≤ 65535) : ([(wrap64 (224 + (wrap64 (Int.tdiv x 4096)))) % 256, (wrap64 (128 + (Int.tmod (wrap64 (Int.tdiv x 64)) 64))) % 256, (wrap64 (128 + (Int.tmod x 64))) % 256] : List Int) = [224 + x / 4096, 128 + x / 64 % 64, 128 + x % 64] := by
  rw [last6 x (by omega), mid6 x (by omega) (by omega), (q1 x (by omega)).2.2.1, ww (x / 4096) (by omega) (by omega), ww (224 + x / 4096) (by omega) (by omega)]
  congr 1
  omega
theorem enc4 (x : Int) (h0 : 65536 ≤ x) (h1 : x ≤ 1114111) : ([(wrap64 (240 + (wrap64 (Int.tdiv x 262144)))) % 256, (wrap64 (128 + (Int.tmod (wrap64 (Int.tdiv x 4096)) 64))) % 256, (wrap64 (128 + (Int.tmod (wrap64 (Int.tdiv x 64)) 64))) % 256, (wrap64 (128 + (Int.tmod x 64))) % 256] : List Int) = [240 + x / 262144, 128 + x / 4096 % 64, 128 + x / 64 % 64, 128 + x % 64] := by
  rw [last6 x (by omega), mid6 x (by omega) (by omega), high6 x (by omega) (by omega), (q1 x (by omega)).2.2.2, ww (x / 262144) (by omega) (by omega), ww (240 + x / 262144) (by omega) (by omega)]
  congr 1
  omega

/-- One sign's bytes, the reference's way. -/
theorem enc_step (k : Nat) (l x3 : List Int) (i : Nat) (hi : i ≤ 100000) (hx3 : x3.length ≤ 1000000) (x : Int) (h0 : -2147483648 ≤ x) (h1 : x ≤ 2147483647) (r : ByteArray)
    (h : clerestoryref1_CharsEncode.l0 k l (x3 ++ Lib.encodeRuneZ x) ((i + 1 : Nat) : Int) = some r) :
    clerestoryref1_CharsEncode.j1 (k + 2) l x3 (i : Int) x (decide (x < 0 ∨ (55296 ≤ x ∧ x ≤ 57343) ∨ 1114111 < x)) = some r := by
  rw [clerestoryref1_CharsEncode.j1]
  have w : wrap64 ((i : Int) + 1) = ((i + 1 : Nat) : Int) := wrap_i i (by omega)
  by_cases b : x < 0 ∨ (55296 ≤ x ∧ x ≤ 57343) ∨ 1114111 < x
  · rw [if_pos (decide_eq_true b), clerestoryref1_CharsEncode.j2, if_neg (by decide), if_neg (by decide), if_pos (by decide)]
    rw [Lib.encodeRuneZ_bad b] at h
    rw [w]
    simp only [Option.bind_some]
    rw [if_pos (by simp only [List.length_cons, List.length_nil]; omega), enc3 65533 (by decide) (by decide), show ([224 + 65533 / 4096, 128 + 65533 / 64 % 64, 128 + 65533 % 64] : List Int) = [239, 191, 189] by decide]
    exact h
  · rw [if_neg (by simpa using b), clerestoryref1_CharsEncode.j2, w]
    clear w
    by_cases c1 : x < 128
    · rw [if_pos c1, if_pos (by omega)]
      rw [Lib.encodeRuneZ_one (by omega) (by omega)] at h
      rw [show x % 256 = x by omega]
      exact h
    rw [if_neg c1]
    by_cases c2 : x < 2048
    · rw [if_pos c2]
      rw [Lib.encodeRuneZ_two (by omega) (by omega)] at h
      simp only [Option.bind_some]
      rw [if_pos (by simp only [List.length_cons, List.length_nil]; omega), enc2 x (by omega) (by omega)]
      exact h
    rw [if_neg c2]
    by_cases c3 : x < 65536
    · rw [if_pos c3]
      rw [Lib.encodeRuneZ_three (by omega)] at h
      simp only [Option.bind_some]
      rw [if_pos (by simp only [List.length_cons, List.length_nil]; omega), enc3 x (by omega) (by omega)]
      exact h
    rw [if_neg c3]
    rw [Lib.encodeRuneZ_four (by omega) (by omega)] at h
    simp only [Option.bind_some]
    rw [if_pos (by simp only [List.length_cons, List.length_nil]; omega), enc4 x (by omega) (by omega)]
    exact h

theorem numsZ (l : List Int) : strOfNums (l.flatMap Lib.encodeRuneZ) = ⟨(bytesOfSigns l).toArray⟩ := by
  unfold strOfNums bytesOfSigns Lib.encodeRune
  rw [List.map_flatMap]

theorem zlen (l : List Int) : (l.flatMap Lib.encodeRuneZ).length ≤ 4 * l.length := by
  induction l with
  | nil => exact Nat.le_refl _
  | cons r t ih =>
    have := Lib.encodeRuneZ_length r
    simp only [List.flatMap_cons, List.length_append, List.length_cons]
    omega

/-- The reference's encoding. -/
theorem ref_encode (l : List Int) (hl : l.length ≤ 100000) (hr : ∀ x ∈ l, -2147483648 ≤ x ∧ x ≤ 2147483647) (d : Nat) : ∀ (i : Nat) (x3 : List Int), i ≤ l.length → l.length - i = d → x3.length ≤ 4 * i → ∀ k, 4 * d + 4 < k →
    clerestoryref1_CharsEncode.l0 k l x3 (i : Int) = some (strOfNums (x3 ++ (l.drop i).flatMap Lib.encodeRuneZ)) := by
  induction d with
  | zero =>
    intro i x3 hi hd hx k hk
    obtain ⟨k, rfl⟩ : ∃ q, k = q + 1 := ⟨k - 1, by omega⟩
    rw [clerestoryref1_CharsEncode.l0, if_neg (by omega), List.drop_eq_nil_of_le (by omega)]
    simp
  | succ d ih =>
    intro i x3 hi hd hx k hk
    obtain ⟨k, rfl⟩ : ∃ q, k = q + 3 := ⟨k - 3, by omega⟩
    have hlt : i < l.length := by omega
    rw [clerestoryref1_CharsEncode.l0, if_pos (by omega), if_pos (by omega), rd_int l i hlt]
    obtain ⟨h0, h1⟩ := hr l[i] (List.getElem_mem hlt)
    have hz := Lib.encodeRuneZ_length l[i]
    rw [List.drop_eq_getElem_cons hlt, List.flatMap_cons, ← List.append_assoc]
    have IH := ih (i + 1) (x3 ++ Lib.encodeRuneZ l[i]) (by omega) (by omega) (by rw [List.length_append]; omega) k (by omega)
    have H := enc_step k l x3 i (by omega) (by omega) l[i] h0 h1 _ IH
    clear ih IH hz
    generalize l[i] = x at h0 h1 H ⊢
    rw [show wrap64 x = x by unfold wrap64; omega, ref_between]
    simp only [Option.bind_some]
    by_cases c1 : x < 0
    · rw [if_pos c1]
      rw [show decide (x < 0 ∨ (55296 ≤ x ∧ x ≤ 57343) ∨ 1114111 < x) = true from decide_eq_true (.inl c1)] at H
      exact H
    rw [if_neg c1]
    by_cases c2 : 55296 ≤ x ∧ x ≤ 57343
    · rw [if_pos (decide_eq_true c2)]
      rw [show decide (x < 0 ∨ (55296 ≤ x ∧ x ≤ 57343) ∨ 1114111 < x) = true from decide_eq_true (.inr (.inl c2))] at H
      exact H
    rw [if_neg (by simpa using c2)]
    rw [show decide (x < 0 ∨ (55296 ≤ x ∧ x ≤ 57343) ∨ 1114111 < x) = decide (x > 1114111) from decide_eq_decide.2 (by omega)] at H
    exact H

theorem ref_enc (l : List Int) (hl : l.length ≤ 100000) (hr : ∀ x ∈ l, -2147483648 ≤ x ∧ x ≤ 2147483647) (k : Nat) (hk : 4 * l.length + 4 < k) : clerestoryref1_CharsEncode.f k l = some ⟨(bytesOfSigns l).toArray⟩ := by
  unfold clerestoryref1_CharsEncode.f
  have := ref_encode l hl hr l.length 0 [] (Nat.zero_le _) (by omega) (by simp) k hk
  rw [show ((0 : Nat) : Int) = 0 from rfl] at this
  rw [this, List.drop_zero, List.nil_append, numsZ]

end Go.Proofs.YtjlgbakdnenjhaaDoor.LE
