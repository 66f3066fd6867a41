/- The reference's way to a text's first sign (the longest beginning, then whether it is whole), in plain words, and that it is 'sg1'. -/
import Derived.Test.YtjlgbakdnenjhaaDoorSigns
namespace Go.Proofs.YtjlgbakdnenjhaaDoor.L
open Go Go.RowKit

/-- May byte b stand at place p of a sign that begins with f? -/
def mB (f : Int) (p : Nat) (b : Int) : Bool :=
  if p = 0 then decide (b < 128 ∨ 194 ≤ b ∧ b ≤ 244)
  else if p = 1 ∧ f = 224 then decide (160 ≤ b ∧ b ≤ 191)
  else if p = 1 ∧ f = 237 then decide (128 ≤ b ∧ b ≤ 159)
  else if p = 1 ∧ f = 240 then decide (144 ≤ b ∧ b ≤ 191)
  else if p = 1 ∧ f = 244 then decide (128 ≤ b ∧ b ≤ 143)
  else decide (128 ≤ b ∧ b ≤ 191)
def longN (f : Int) : Nat := if f < 128 then 1 else if f < 224 then 2 else if f < 240 then 3 else 4
def cnt (L : Nat) (f : Int) : Nat → List Int → Nat
  | p, [] => p
  | p, b :: t => if p < L ∧ mB f p b = true then cnt L f (p + 1) t else p
def val (x : Int) : List Int → Int
  | [] => x
  | c :: t => val (64 * x + (c - 128)) t
def base (b : Int) (n : Nat) : Int := if n = 2 then b - 192 else if n = 3 then b - 224 else if n = 4 then b - 240 else b
def refStep : List Int → Int × Nat
  | [] => (65533, 1)
  | b :: t => if cnt (longN b) b 0 (b :: t) < longN b then (65533, if cnt (longN b) b 0 (b :: t) = 0 then 1 else cnt (longN b) b 0 (b :: t))
    else (val (base b (cnt (longN b) b 0 (b :: t))) (t.take (cnt (longN b) b 0 (b :: t) - 1)), cnt (longN b) b 0 (b :: t))

theorem cnt_ge (L : Nat) (f : Int) : ∀ (l : List Int) (p : Nat), p ≤ cnt L f p l
  | [], p => Nat.le_refl _
  | b :: t, p => by
    unfold cnt
    split
    · exact Nat.le_trans (Nat.le_succ p) (cnt_ge L f t (p + 1))
    · exact Nat.le_refl _
theorem cnt_le (L : Nat) (f : Int) : ∀ (l : List Int) (p : Nat), cnt L f p l ≤ p + l.length
  | [], p => Nat.le_refl _
  | b :: t, p => by
    unfold cnt
    split
    · have := cnt_le L f t (p + 1)
      simp only [List.length_cons]
      omega
    · exact Nat.le_add_right _ _
theorem cnt_leL (L : Nat) (f : Int) : ∀ (l : List Int) (p : Nat), p ≤ L → cnt L f p l ≤ L
  | [], p, h => h
  | b :: t, p, h => by
    unfold cnt
    split
    · rename_i hc
      exact cnt_leL L f t (p + 1) hc.1
    · exact h

theorem conts_cnt (f : Int) (L : Nat) : ∀ (m i : Nat) (x lo hi : Int) (l : List Int), L = i + m → (m ≠ 0 → ∀ c, mB f i c = decide (lo ≤ c ∧ c ≤ hi)) → (∀ p c, i < p → mB f p c = decide (128 ≤ c ∧ c ≤ 191)) →
    conts m lo hi x i l = (if cnt L f i l < L then 65533 else val x (l.take (cnt L f i l - i)), cnt L f i l)
  | 0, i, x, lo, hi, l, hL, _, _ => by
    have e : cnt L f i l = i := by
      cases l with
      | nil => rfl
      | cons b t => unfold cnt; rw [if_neg (by omega)]
    rw [e, if_neg (by omega), Nat.sub_self]
    simp [conts, val]
  | m + 1, i, x, lo, hi, [], hL, _, _ => by
    have e : cnt L f i [] = i := rfl
    rw [e, if_pos (by omega)]
    rfl
  | m + 1, i, x, lo, hi, c :: t, hL, h1, h2 => by
    have hm := h1 (by omega) c
    unfold conts
    by_cases c1 : c < lo
    · rw [if_pos c1]
      have e : cnt L f i (c :: t) = i := by
        unfold cnt
        rw [if_neg]
        rw [hm]
        simp only [decide_eq_true_eq]
        omega
      rw [e, if_pos (by omega)]
    rw [if_neg c1]
    by_cases c2 : c > hi
    · rw [if_pos c2]
      have e : cnt L f i (c :: t) = i := by
        unfold cnt
        rw [if_neg]
        rw [hm]
        simp only [decide_eq_true_eq]
        omega
      rw [e, if_pos (by omega)]
    rw [if_neg c2]
    have e : cnt L f i (c :: t) = cnt L f (i + 1) t := by
      conv => lhs; unfold cnt
      rw [if_pos ⟨by omega, by rw [hm]; simp only [decide_eq_true_eq]; omega⟩]
    rw [e, conts_cnt f L m (i + 1) (64 * x + (c - 128)) 128 191 t (by omega) (fun _ c => h2 (i + 1) c (by omega)) (fun p c hp => h2 p c (by omega))]
    have hg := cnt_ge L f t (i + 1)
    obtain ⟨q, hq⟩ : ∃ q, cnt L f (i + 1) t - i = q + 1 := ⟨cnt L f (i + 1) t - i - 1, by omega⟩
    have hq2 : cnt L f (i + 1) t - (i + 1) = q := by omega
    rw [hq, hq2]
    simp only [List.take_succ_cons, val]

theorem ref_conts (b : Int) (t : List Int) (m : Nat) (lo hi : Int) (hL : longN b = 1 + m) (hm : 1 ≤ m) (hb : mB b 0 b = true) (h1 : ∀ c, mB b 1 c = decide (lo ≤ c ∧ c ≤ hi)) :
    refStep (b :: t) = conts m lo hi (base b (1 + m)) 1 t := by
  have e : cnt (longN b) b 0 (b :: t) = cnt (longN b) b 1 t := by
    conv => lhs; unfold cnt
    rw [if_pos ⟨by omega, hb⟩]
  have h2 : ∀ p c, 1 < p → mB b p c = decide (128 ≤ c ∧ c ≤ 191) := fun p c hp => by
    unfold mB
    rw [if_neg (by omega), if_neg (by omega), if_neg (by omega), if_neg (by omega), if_neg (by omega)]
  have hg := cnt_ge (longN b) b t 1
  have hl := cnt_leL (longN b) b t 1 (by omega)
  simp only [refStep, e]
  rw [conts_cnt b (longN b) m 1 (base b (1 + m)) lo hi t hL (fun _ => h1) h2]
  by_cases c : cnt (longN b) b 1 t < longN b
  · rw [if_pos c, if_pos c, if_neg (by omega)]
  · rw [if_neg c, if_neg c, show cnt (longN b) b 1 t = 1 + m by omega]

/-- The first sign, the reference's way. -/
theorem ref_sg1 (b : Int) (t : List Int) (h : 0 ≤ b ∧ b ≤ 255) : refStep (b :: t) = sg1 (b :: t) := by
  rw [sg1_cons]
  by_cases c1 : b < 128
  · rw [if_pos c1]
    have hL : longN b = 1 := by simp [longN, c1]
    have hm : mB b 0 b = true := by simp [mB, c1]
    have e : cnt (longN b) b 0 (b :: t) = 1 := by
      unfold cnt
      rw [if_pos ⟨by omega, hm⟩]
      cases t with
      | nil => rfl
      | cons c t => unfold cnt; rw [if_neg (by omega)]
    simp only [refStep, e]
    rw [if_neg (by omega)]
    simp [val, base]
  rw [if_neg c1]
  by_cases c2 : b < 194 ∨ 245 ≤ b
  · have hm : mB b 0 b = false := by
      simp only [mB, if_pos, decide_eq_false_iff_not]
      omega
    have hg : 1 ≤ longN b := by unfold longN; split <;> (try split) <;> (try split) <;> omega
    have e : cnt (longN b) b 0 (b :: t) = 0 := by
      unfold cnt
      rw [if_neg (by rw [hm]; simp)]
    simp only [refStep, e]
    rw [if_pos (by omega), if_pos trivial]
    rcases c2 with c2 | c2
    · rw [if_pos c2]
    · rw [if_neg (by omega), if_neg (by omega), if_neg (by omega), if_neg (by omega)]
  have hm : mB b 0 b = true := by
    simp only [mB, if_pos, decide_eq_true_eq]
    omega
  rw [if_neg (by omega)]
  by_cases c3 : b < 224
  · rw [if_pos c3]
    have hL : longN b = 1 + 1 := by simp [longN, c1, c3]
    have := ref_conts b t 1 128 191 hL (by omega) hm (fun c => by
      unfold mB
      rw [if_neg (by omega), if_neg (by omega), if_neg (by omega), if_neg (by omega), if_neg (by omega)])
    rw [this]
    rfl
  rw [if_neg c3]
  by_cases c4 : b < 240
  · rw [if_pos c4]
    have hL : longN b = 1 + 2 := by simp [longN, c1, c3, c4]
    have := ref_conts b t 2 (if b = 224 then 160 else 128) (if b = 237 then 159 else 191) hL (by omega) hm (fun c => by
      unfold mB
      rw [if_neg (by omega)]
      by_cases d1 : b = 224
      · rw [if_pos ⟨rfl, d1⟩, if_pos d1, if_neg (by omega)]
      rw [if_neg (by omega), if_neg d1]
      by_cases d2 : b = 237
      · rw [if_pos ⟨rfl, d2⟩, if_pos d2]
      rw [if_neg (by omega), if_neg d2, if_neg (by omega), if_neg (by omega)])
    rw [this]
    rfl
  rw [if_neg c4, if_pos (by omega)]
  have hL : longN b = 1 + 3 := by simp [longN, c1, c3, c4]
  have := ref_conts b t 3 (if b = 240 then 144 else 128) (if b = 244 then 143 else 191) hL (by omega) hm (fun c => by
    unfold mB
    rw [if_neg (by omega), if_neg (by omega), if_neg (by omega)]
    by_cases d1 : b = 240
    · rw [if_pos ⟨rfl, d1⟩, if_pos d1, if_neg (by omega)]
    rw [if_neg (by omega), if_neg d1]
    by_cases d2 : b = 244
    · rw [if_pos ⟨rfl, d2⟩, if_pos d2]
    rw [if_neg (by omega), if_neg d2])
  rw [this]
  rfl
end Go.Proofs.YtjlgbakdnenjhaaDoor.L
