/- Written by this session's program (wip/xp) out of the translation as Lean prints it: for each Go function a Lean function and the proof that the code answers just so, on the conditions named in each statement. -/
import Derived.Test.YtjlgbakdnenjhaaDoorXEn0
import Derived.Test.YtjlgbakdnenjhaaDoorXEn3
import Derived.Test.YtjlgbakdnenjhaaDoorXEn4
namespace Go.Proofs.YtjlgbakdnenjhaaDoor.XEn
open Go.RowKit Go.Proofs.YtjlgbakdnenjhaaDoorW.PrintWords Go.Proofs.YtjlgbakdnenjhaaDoorW.PrintLast Go.Proofs.YtjlgbakdnenjhaaDoorW.PrintMore
attribute [local go_sem] max2_int min2_int max_two min_two max_three min_three max_four min_four   -- for this text's walks alone
set_option linter.unusedVariables false
set_option linter.unusedSimpArgs false

/-! ### clerestoryref1_EntityFind: function 29 -/
mutual
def clerestoryref1_EntityFind.j0 : Nat → ByteArray → Bool → Bool → Option (ByteArray × Int)
  | 0, _, _, _ => none
  | k + 1, x0, x1, x22 => if x22 = true then (some ((⟨#[]⟩ : ByteArray), 0)) else (if 1 < (x0.size : Int) then (if (bt x0 1) = 35 then (if (x0.size : Int) > 2 then (if 2 < (x0.size : Int) then (if (bt x0 2) = 120 then (clerestoryref1_EntityFind.j1 k x0 10 2 true) else (clerestoryref1_EntityFind.j1 k x0 10 2 ((bt x0 2) == 88))) else (none)) else (clerestoryref1_EntityFind.j1 k x0 10 2 false)) else (clerestoryref1_EntityFind.l1 k x0 x1 10)) else (none))
def clerestoryref1_EntityFind.j1 : Nat → ByteArray → Int → Int → Bool → Option (ByteArray × Int)
  | 0, _, _, _, _ => none
  | k + 1, x0, x6, x7, x38 => if x38 = true then (clerestoryref1_EntityFind.j2 k x0 16 3) else (clerestoryref1_EntityFind.j2 k x0 x6 x7)
def clerestoryref1_EntityFind.j2 : Nat → ByteArray → Int → Int → Option (ByteArray × Int)
  | 0, _, _, _ => none
  | k + 1, x0, x6, x7 => clerestoryref1_EntityFind.l0 k x0 x6 x7 x7 0
def clerestoryref1_EntityFind.l0 : Nat → ByteArray → Int → Int → Int → Int → Option (ByteArray × Int)
  | 0, _, _, _, _, _ => none
  | k + 1, x0, x6, x7, x8, x9 => if x7 < (x0.size : Int) then (if 0 ≤ x7 then ((clerestoryref1_hexOf.f k (bt x0 x7)).bind fun t165 => (clerestoryref1_EntityFind.j4 k x0 x6 x7 x8 x9 (decide (t165 < x6)))) else (none)) else (clerestoryref1_EntityFind.j4 k x0 x6 x7 x8 x9 false)
def clerestoryref1_EntityFind.j4 : Nat → ByteArray → Int → Int → Int → Int → Bool → Option (ByteArray × Int)
  | 0, _, _, _, _, _, _ => none
  | k + 1, x0, x6, x7, x8, x9, x51 => if x51 = true then (if 0 ≤ x7 then (if x7 < (x0.size : Int) then ((clerestoryref1_hexOf.f k (bt x0 x7)).bind fun t166 => (if (wrap64 ((wrap64 (x6 * x9)) + t166)) > 2000000 then (clerestoryref1_EntityFind.l0 k x0 x6 (wrap64 (x7 + 1)) x8 2000000) else (clerestoryref1_EntityFind.l0 k x0 x6 (wrap64 (x7 + 1)) x8 (wrap64 ((wrap64 (x6 * x9)) + t166))))) else (none)) else (none)) else (if x7 = x8 then (some ((⟨#[]⟩ : ByteArray), 0)) else (if x7 < (x0.size : Int) then (if 0 ≤ x7 then (clerestoryref1_EntityFind.j5 k x7 x9 ((bt x0 x7) == 59)) else (none)) else (clerestoryref1_EntityFind.j5 k x7 x9 false)))
def clerestoryref1_EntityFind.j5 : Nat → Int → Int → Bool → Option (ByteArray × Int)
  | 0, _, _, _ => none
  | k + 1, x7, x9, x76 => if x76 = true then (if x9 = 0 then ((clerestoryref1_CharsEncode.f k (([65533] : List Int))).bind fun t170 => (some (t170, wrap64 (x7 + 1)))) else (if x9 = 13 then ((clerestoryref1_CharsEncode.f k (([65533] : List Int))).bind fun t174 => (some (t174, wrap64 (x7 + 1)))) else ((clerestoryref1_CharsEncode.f k (([wrap32 (x9)] : List Int))).bind fun t178 => (some (t178, wrap64 (x7 + 1)))))) else (if x9 = 0 then ((clerestoryref1_CharsEncode.f k (([65533] : List Int))).bind fun t182 => (some (t182, x7))) else (if x9 = 13 then ((clerestoryref1_CharsEncode.f k (([65533] : List Int))).bind fun t186 => (some (t186, x7))) else ((clerestoryref1_CharsEncode.f k (([wrap32 (x9)] : List Int))).bind fun t190 => (some (t190, x7)))))
def clerestoryref1_EntityFind.l1 : Nat → ByteArray → Bool → Int → Option (ByteArray × Int)
  | 0, _, _, _ => none
  | k + 1, x0, x1, x10 => if x10 ≥ 2 then (if x10 > (x0.size : Int) then (clerestoryref1_EntityFind.l1 k x0 x1 (wrap64 (x10 - 1))) else (if 1 ≤ x10 then (if x10 ≤ (x0.size : Int) then (if 0 ≤ (wrap64 (((x0.extract 1 (x10 : Int).toNat).size : Int) - 1)) then (if (wrap64 (((x0.extract 1 (x10 : Int).toNat).size : Int) - 1)) < ((x0.extract 1 (x10 : Int).toNat).size : Int) then (if (bt (x0.extract 1 (x10 : Int).toNat) (wrap64 (((x0.extract 1 (x10 : Int).toNat).size : Int) - 1))) = 59 then (if (wrap64 (((x0.extract 1 (x10 : Int).toNat).size : Int) - 1)) ≤ ((x0.extract 1 (x10 : Int).toNat).size : Int) then (clerestoryref1_EntityFind.j7 k x0 x1 x10 ((x0.extract 1 (x10 : Int).toNat).extract 0 ((wrap64 (((x0.extract 1 (x10 : Int).toNat).size : Int) - 1)) : Int).toNat) ((bt (x0.extract 1 (x10 : Int).toNat) (wrap64 (((x0.extract 1 (x10 : Int).toNat).size : Int) - 1))) == 59)) else (none)) else (clerestoryref1_EntityFind.j7 k x0 x1 x10 (x0.extract 1 (x10 : Int).toNat) ((bt (x0.extract 1 (x10 : Int).toNat) (wrap64 (((x0.extract 1 (x10 : Int).toNat).size : Int) - 1))) == 59))) else (none)) else (none)) else (none)) else (none))) else (some ((⟨#[]⟩ : ByteArray), 0))
def clerestoryref1_EntityFind.j7 : Nat → ByteArray → Bool → Int → ByteArray → Bool → Option (ByteArray × Int)
  | 0, _, _, _, _, _ => none
  | k + 1, x0, x1, x10, x11, x12 => (clerestoryref1_rowOf.f k x11).bind fun bt191 => (if bt191.1 < 0 then (clerestoryref1_EntityFind.j8 k x0 x1 x10 x12 bt191.1 true) else (if x12 = true then (clerestoryref1_EntityFind.j8 k x0 x1 x10 x12 bt191.1 false) else (clerestoryref1_EntityFind.j8 k x0 x1 x10 x12 bt191.1 (!bt191.2))))
def clerestoryref1_EntityFind.j8 : Nat → ByteArray → Bool → Int → Bool → Int → Bool → Option (ByteArray × Int)
  | 0, _, _, _, _, _, _ => none
  | k + 1, x0, x1, x10, x12, x13, x127 => if x127 = true then (clerestoryref1_EntityFind.l1 k x0 x1 (wrap64 (x10 - 1))) else (if x12 = true then ((clerestoryref1_CharsEncode.f k (([wrap32 (x13)] : List Int))).bind fun t196 => (some (t196, x10))) else (if x1 = true then (if x10 < (x0.size : Int) then (if 0 ≤ x10 then (if (bt x0 x10) = 61 then (some ((⟨#[]⟩ : ByteArray), 0)) else ((clerestoryref1_letterOrDigit.f (bt x0 x10)).bind fun t197 => (if t197 = true then (some ((⟨#[]⟩ : ByteArray), 0)) else ((clerestoryref1_CharsEncode.f k (([wrap32 (x13)] : List Int))).bind fun t201 => (some (t201, x10)))))) else (none)) else ((clerestoryref1_CharsEncode.f k (([wrap32 (x13)] : List Int))).bind fun t205 => (some (t205, x10)))) else ((clerestoryref1_CharsEncode.f k (([wrap32 (x13)] : List Int))).bind fun t209 => (some (t209, x10)))))
end
def clerestoryref1_EntityFind.f (k : Nat) (a0 : ByteArray) (a1 : Bool) : Option (ByteArray × Int) := if (a0.size : Int) < 2 then (clerestoryref1_EntityFind.j0 k a0 a1 true) else (if 0 < (a0.size : Int) then (clerestoryref1_EntityFind.j0 k a0 a1 ((bt a0 0) != 38)) else (none))
theorem clerestoryref1_EntityFind.mono_l : ∀ k, (∀ y0 y1 y2, LeO (clerestoryref1_EntityFind.j0 k y0 y1 y2) (clerestoryref1_EntityFind.j0 (k + 1) y0 y1 y2)) ∧ (∀ y0 y1 y2 y3, LeO (clerestoryref1_EntityFind.j1 k y0 y1 y2 y3) (clerestoryref1_EntityFind.j1 (k + 1) y0 y1 y2 y3)) ∧ (∀ y0 y1 y2, LeO (clerestoryref1_EntityFind.j2 k y0 y1 y2) (clerestoryref1_EntityFind.j2 (k + 1) y0 y1 y2)) ∧ (∀ y0 y1 y2 y3 y4, LeO (clerestoryref1_EntityFind.l0 k y0 y1 y2 y3 y4) (clerestoryref1_EntityFind.l0 (k + 1) y0 y1 y2 y3 y4)) ∧ (∀ y0 y1 y2 y3 y4 y5, LeO (clerestoryref1_EntityFind.j4 k y0 y1 y2 y3 y4 y5) (clerestoryref1_EntityFind.j4 (k + 1) y0 y1 y2 y3 y4 y5)) ∧ (∀ y0 y1 y2, LeO (clerestoryref1_EntityFind.j5 k y0 y1 y2) (clerestoryref1_EntityFind.j5 (k + 1) y0 y1 y2)) ∧ (∀ y0 y1 y2, LeO (clerestoryref1_EntityFind.l1 k y0 y1 y2) (clerestoryref1_EntityFind.l1 (k + 1) y0 y1 y2)) ∧ (∀ y0 y1 y2 y3 y4, LeO (clerestoryref1_EntityFind.j7 k y0 y1 y2 y3 y4) (clerestoryref1_EntityFind.j7 (k + 1) y0 y1 y2 y3 y4)) ∧ (∀ y0 y1 y2 y3 y4 y5, LeO (clerestoryref1_EntityFind.j8 k y0 y1 y2 y3 y4 y5) (clerestoryref1_EntityFind.j8 (k + 1) y0 y1 y2 y3 y4 y5))
  | 0 => ⟨fun _ _ _ r h => by simp [clerestoryref1_EntityFind.j0] at h, fun _ _ _ _ r h => by simp [clerestoryref1_EntityFind.j1] at h, fun _ _ _ r h => by simp [clerestoryref1_EntityFind.j2] at h, fun _ _ _ _ _ r h => by simp [clerestoryref1_EntityFind.l0] at h, fun _ _ _ _ _ _ r h => by simp [clerestoryref1_EntityFind.j4] at h, fun _ _ _ r h => by simp [clerestoryref1_EntityFind.j5] at h, fun _ _ _ r h => by simp [clerestoryref1_EntityFind.l1] at h, fun _ _ _ _ _ r h => by simp [clerestoryref1_EntityFind.j7] at h, fun _ _ _ _ _ _ r h => by simp [clerestoryref1_EntityFind.j8] at h⟩
  | k + 1 => by
    obtain ⟨ih0, ih1, ih2, ih3, ih4, ih5, ih6, ih7, ih8⟩ := clerestoryref1_EntityFind.mono_l k
    refine ⟨?_, ?_, ?_, ?_, ?_, ?_, ?_, ?_, ?_⟩
    · intro y0 y1 y2
      unfold clerestoryref1_EntityFind.j0
      repeat' first
      | (with_reducible exact ih0 _ _ _)
      | (with_reducible exact ih1 _ _ _ _)
      | (with_reducible exact ih2 _ _ _)
      | (with_reducible exact ih3 _ _ _ _ _)
      | (with_reducible exact ih4 _ _ _ _ _ _)
      | (with_reducible exact ih5 _ _ _)
      | (with_reducible exact ih6 _ _ _)
      | (with_reducible exact ih7 _ _ _ _ _)
      | (with_reducible exact ih8 _ _ _ _ _ _)
      | (with_reducible exact clerestoryref1_CharsEncode.mono _ _)
      | (with_reducible exact clerestoryref1_hexOf.mono _ _)
      | (with_reducible exact clerestoryref1_rowOf.mono _ _)
      | (with_reducible exact LeO.refl _)
      | (with_reducible exact LeO.none _)
      | (with_reducible refine LeO.ite ?_ ?_)
      | (with_reducible refine LeO.bind ?_ (fun _ => ?_))
      | exact ih0 _ _ _
      | exact ih1 _ _ _ _
      | exact ih2 _ _ _
      | exact ih3 _ _ _ _ _
      | exact ih4 _ _ _ _ _ _
      | exact ih5 _ _ _
      | exact ih6 _ _ _
      | exact ih7 _ _ _ _ _
      | exact ih8 _ _ _ _ _ _
      | exact clerestoryref1_CharsEncode.mono _ _
      | exact clerestoryref1_hexOf.mono _ _
      | exact clerestoryref1_rowOf.mono _ _
      | exact LeO.none _
      | refine LeO.ite ?_ ?_
      | refine LeO.bind ?_ (fun _ => ?_)
    · intro y0 y1 y2 y3
      unfold clerestoryref1_EntityFind.j1
      repeat' first
      | (with_reducible exact ih0 _ _ _)
      | (with_reducible exact ih1 _ _ _ _)
      | (with_reducible exact ih2 _ _ _)
      | (with_reducible exact ih3 _ _ _ _ _)
      | (with_reducible exact ih4 _ _ _ _ _ _)
      | (with_reducible exact ih5 _ _ _)
      | (with_reducible exact ih6 _ _ _)
      | (with_reducible exact ih7 _ _ _ _ _)
      | (with_reducible exact ih8 _ _ _ _ _ _)
      | (with_reducible exact clerestoryref1_CharsEncode.mono _ _)
      | (with_reducible exact clerestoryref1_hexOf.mono _ _)
      | (with_reducible exact clerestoryref1_rowOf.mono _ _)
      | (with_reducible exact LeO.refl _)
      | (with_reducible exact LeO.none _)
      | (with_reducible refine LeO.ite ?_ ?_)
      | (with_reducible refine LeO.bind ?_ (fun _ => ?_))
      | exact ih0 _ _ _
      | exact ih1 _ _ _ _
      | exact ih2 _ _ _
      | exact ih3 _ _ _ _ _
      | exact ih4 _ _ _ _ _ _
      | exact ih5 _ _ _
      | exact ih6 _ _ _
      | exact ih7 _ _ _ _ _
      | exact ih8 _ _ _ _ _ _
      | exact clerestoryref1_CharsEncode.mono _ _
      | exact clerestoryref1_hexOf.mono _ _
      | exact clerestoryref1_rowOf.mono _ _
      | exact LeO.none _
      | refine LeO.ite ?_ ?_
      | refine LeO.bind ?_ (fun _ => ?_)
    · intro y0 y1 y2
      unfold clerestoryref1_EntityFind.j2
      repeat' first
      | (with_reducible exact ih0 _ _ _)
      | (with_reducible exact ih1 _ _ _ _)
      | (with_reducible exact ih2 _ _ _)
      | (with_reducible exact ih3 _ _ _ _ _)
      | (with_reducible exact ih4 _ _ _ _ _ _)
      | (with_reducible exact ih5 _ _ _)
      | (with_reducible exact ih6 _ _ _)
      | (with_reducible exact ih7 _ _ _ _ _)
      | (with_reducible exact ih8 _ _ _ _ _ _)
      | (with_reducible exact clerestoryref1_CharsEncode.mono _ _)
      | (with_reducible exact clerestoryref1_hexOf.mono _ _)
      | (with_reducible exact clerestoryref1_rowOf.mono _ _)
      | (with_reducible exact LeO.refl _)
      | (with_reducible exact LeO.none _)
      | (with_reducible refine LeO.ite ?_ ?_)
      | (with_reducible refine LeO.bind ?_ (fun _ => ?_))
      | exact ih0 _ _ _
      | exact ih1 _ _ _ _
      | exact ih2 _ _ _
      | exact ih3 _ _ _ _ _
      | exact ih4 _ _ _ _ _ _
      | exact ih5 _ _ _
      | exact ih6 _ _ _
      | exact ih7 _ _ _ _ _
      | exact ih8 _ _ _ _ _ _
      | exact clerestoryref1_CharsEncode.mono _ _
      | exact clerestoryref1_hexOf.mono _ _
      | exact clerestoryref1_rowOf.mono _ _
      | exact LeO.none _
      | refine LeO.ite ?_ ?_
      | refine LeO.bind ?_ (fun _ => ?_)
    · intro y0 y1 y2 y3 y4
      unfold clerestoryref1_EntityFind.l0
      repeat' first
      | (with_reducible exact ih0 _ _ _)
      | (with_reducible exact ih1 _ _ _ _)
      | (with_reducible exact ih2 _ _ _)
      | (with_reducible exact ih3 _ _ _ _ _)
      | (with_reducible exact ih4 _ _ _ _ _ _)
      | (with_reducible exact ih5 _ _ _)
      | (with_reducible exact ih6 _ _ _)
      | (with_reducible exact ih7 _ _ _ _ _)
      | (with_reducible exact ih8 _ _ _ _ _ _)
      | (with_reducible exact clerestoryref1_CharsEncode.mono _ _)
      | (with_reducible exact clerestoryref1_hexOf.mono _ _)
      | (with_reducible exact clerestoryref1_rowOf.mono _ _)
      | (with_reducible exact LeO.refl _)
      | (with_reducible exact LeO.none _)
      | (with_reducible refine LeO.ite ?_ ?_)
      | (with_reducible refine LeO.bind ?_ (fun _ => ?_))
      | exact ih0 _ _ _
      | exact ih1 _ _ _ _
      | exact ih2 _ _ _
      | exact ih3 _ _ _ _ _
      | exact ih4 _ _ _ _ _ _
      | exact ih5 _ _ _
      | exact ih6 _ _ _
      | exact ih7 _ _ _ _ _
      | exact ih8 _ _ _ _ _ _
      | exact clerestoryref1_CharsEncode.mono _ _
      | exact clerestoryref1_hexOf.mono _ _
      | exact clerestoryref1_rowOf.mono _ _
      | exact LeO.none _
      | refine LeO.ite ?_ ?_
      | refine LeO.bind ?_ (fun _ => ?_)
    · intro y0 y1 y2 y3 y4 y5
      unfold clerestoryref1_EntityFind.j4
      repeat' first
      | (with_reducible exact ih0 _ _ _)
      | (with_reducible exact ih1 _ _ _ _)
      | (with_reducible exact ih2 _ _ _)
      | (with_reducible exact ih3 _ _ _ _ _)
      | (with_reducible exact ih4 _ _ _ _ _ _)
      | (with_reducible exact ih5 _ _ _)
      | (with_reducible exact ih6 _ _ _)
      | (with_reducible exact ih7 _ _ _ _ _)
      | (with_reducible exact ih8 _ _ _ _ _ _)
      | (with_reducible exact clerestoryref1_CharsEncode.mono _ _)
      | (with_reducible exact clerestoryref1_hexOf.mono _ _)
      | (with_reducible exact clerestoryref1_rowOf.mono _ _)
      | (with_reducible exact LeO.refl _)
      | (with_reducible exact LeO.none _)
      | (with_reducible refine LeO.ite ?_ ?_)
      | (with_reducible refine LeO.bind ?_ (fun _ => ?_))
      | exact ih0 _ _ _
      | exact ih1 _ _ _ _
      | exact ih2 _ _ _
      | exact ih3 _ _ _ _ _
      | exact ih4 _ _ _ _ _ _
      | exact ih5 _ _ _
      | exact ih6 _ _ _
      | exact ih7 _ _ _ _ _
      | exact ih8 _ _ _ _ _ _
      | exact clerestoryref1_CharsEncode.mono _ _
      | exact clerestoryref1_hexOf.mono _ _
      | exact clerestoryref1_rowOf.mono _ _
      | exact LeO.none _
      | refine LeO.ite ?_ ?_
      | refine LeO.bind ?_ (fun _ => ?_)
    · intro y0 y1 y2
      unfold clerestoryref1_EntityFind.j5
      repeat' first
      | (with_reducible exact ih0 _ _ _)
      | (with_reducible exact ih1 _ _ _ _)
      | (with_reducible exact ih2 _ _ _)
      | (with_reducible exact ih3 _ _ _ _ _)
      | (with_reducible exact ih4 _ _ _ _ _ _)
      | (with_reducible exact ih5 _ _ _)
      | (with_reducible exact ih6 _ _ _)
      | (with_reducible exact ih7 _ _ _ _ _)
      | (with_reducible exact ih8 _ _ _ _ _ _)
      | (with_reducible exact clerestoryref1_CharsEncode.mono _ _)
      | (with_reducible exact clerestoryref1_hexOf.mono _ _)
      | (with_reducible exact clerestoryref1_rowOf.mono _ _)
      | (with_reducible exact LeO.refl _)
      | (with_reducible exact LeO.none _)
      | (with_reducible refine LeO.ite ?_ ?_)
      | (with_reducible refine LeO.bind ?_ (fun _ => ?_))
      | exact ih0 _ _ _
      | exact ih1 _ _ _ _
      | exact ih2 _ _ _
      | exact ih3 _ _ _ _ _
      | exact ih4 _ _ _ _ _ _
      | exact ih5 _ _ _
      | exact ih6 _ _ _
      | exact ih7 _ _ _ _ _
      | exact ih8 _ _ _ _ _ _
      | exact clerestoryref1_CharsEncode.mono _ _
      | exact clerestoryref1_hexOf.mono _ _
      | exact clerestoryref1_rowOf.mono _ _
      | exact LeO.none _
      | refine LeO.ite ?_ ?_
      | refine LeO.bind ?_ (fun _ => ?_)
    · intro y0 y1 y2
      unfold clerestoryref1_EntityFind.l1
      repeat' first
      | (with_reducible exact ih0 _ _ _)
      | (with_reducible exact ih1 _ _ _ _)
      | (with_reducible exact ih2 _ _ _)
      | (with_reducible exact ih3 _ _ _ _ _)
      | (with_reducible exact ih4 _ _ _ _ _ _)
      | (with_reducible exact ih5 _ _ _)
      | (with_reducible exact ih6 _ _ _)
      | (with_reducible exact ih7 _ _ _ _ _)
      | (with_reducible exact ih8 _ _ _ _ _ _)
      | (with_reducible exact clerestoryref1_CharsEncode.mono _ _)
      | (with_reducible exact clerestoryref1_hexOf.mono _ _)
      | (with_reducible exact clerestoryref1_rowOf.mono _ _)
      | (with_reducible exact LeO.refl _)
      | (with_reducible exact LeO.none _)
      | (with_reducible refine LeO.ite ?_ ?_)
      | (with_reducible refine LeO.bind ?_ (fun _ => ?_))
      | exact ih0 _ _ _
      | exact ih1 _ _ _ _
      | exact ih2 _ _ _
      | exact ih3 _ _ _ _ _
      | exact ih4 _ _ _ _ _ _
      | exact ih5 _ _ _
      | exact ih6 _ _ _
      | exact ih7 _ _ _ _ _
      | exact ih8 _ _ _ _ _ _
      | exact clerestoryref1_CharsEncode.mono _ _
      | exact clerestoryref1_hexOf.mono _ _
      | exact clerestoryref1_rowOf.mono _ _
      | exact LeO.none _
      | refine LeO.ite ?_ ?_
      | refine LeO.bind ?_ (fun _ => ?_)
    · intro y0 y1 y2 y3 y4
      unfold clerestoryref1_EntityFind.j7
      repeat' first
      | (with_reducible exact ih0 _ _ _)
      | (with_reducible exact ih1 _ _ _ _)
      | (with_reducible exact ih2 _ _ _)
      | (with_reducible exact ih3 _ _ _ _ _)
      | (with_reducible exact ih4 _ _ _ _ _ _)
      | (with_reducible exact ih5 _ _ _)
      | (with_reducible exact ih6 _ _ _)
      | (with_reducible exact ih7 _ _ _ _ _)
      | (with_reducible exact ih8 _ _ _ _ _ _)
      | (with_reducible exact clerestoryref1_CharsEncode.mono _ _)
      | (with_reducible exact clerestoryref1_hexOf.mono _ _)
      | (with_reducible exact clerestoryref1_rowOf.mono _ _)
      | (with_reducible exact LeO.refl _)
      | (with_reducible exact LeO.none _)
      | (with_reducible refine LeO.ite ?_ ?_)
      | (with_reducible refine LeO.bind ?_ (fun _ => ?_))
      | exact ih0 _ _ _
      | exact ih1 _ _ _ _
      | exact ih2 _ _ _
      | exact ih3 _ _ _ _ _
      | exact ih4 _ _ _ _ _ _
      | exact ih5 _ _ _
      | exact ih6 _ _ _
      | exact ih7 _ _ _ _ _
      | exact ih8 _ _ _ _ _ _
      | exact clerestoryref1_CharsEncode.mono _ _
      | exact clerestoryref1_hexOf.mono _ _
      | exact clerestoryref1_rowOf.mono _ _
      | exact LeO.none _
      | refine LeO.ite ?_ ?_
      | refine LeO.bind ?_ (fun _ => ?_)
    · intro y0 y1 y2 y3 y4 y5
      unfold clerestoryref1_EntityFind.j8
      repeat' first
      | (with_reducible exact ih0 _ _ _)
      | (with_reducible exact ih1 _ _ _ _)
      | (with_reducible exact ih2 _ _ _)
      | (with_reducible exact ih3 _ _ _ _ _)
      | (with_reducible exact ih4 _ _ _ _ _ _)
      | (with_reducible exact ih5 _ _ _)
      | (with_reducible exact ih6 _ _ _)
      | (with_reducible exact ih7 _ _ _ _ _)
      | (with_reducible exact ih8 _ _ _ _ _ _)
      | (with_reducible exact clerestoryref1_CharsEncode.mono _ _)
      | (with_reducible exact clerestoryref1_hexOf.mono _ _)
      | (with_reducible exact clerestoryref1_rowOf.mono _ _)
      | (with_reducible exact LeO.refl _)
      | (with_reducible exact LeO.none _)
      | (with_reducible refine LeO.ite ?_ ?_)
      | (with_reducible refine LeO.bind ?_ (fun _ => ?_))
      | exact ih0 _ _ _
      | exact ih1 _ _ _ _
      | exact ih2 _ _ _
      | exact ih3 _ _ _ _ _
      | exact ih4 _ _ _ _ _ _
      | exact ih5 _ _ _
      | exact ih6 _ _ _
      | exact ih7 _ _ _ _ _
      | exact ih8 _ _ _ _ _ _
      | exact clerestoryref1_CharsEncode.mono _ _
      | exact clerestoryref1_hexOf.mono _ _
      | exact clerestoryref1_rowOf.mono _ _
      | exact LeO.none _
      | refine LeO.ite ?_ ?_
      | refine LeO.bind ?_ (fun _ => ?_)
theorem clerestoryref1_EntityFind.mono : ∀ a0 a1 k, LeO (clerestoryref1_EntityFind.f k a0 a1) (clerestoryref1_EntityFind.f (k + 1) a0 a1) := by
  intro a0 a1 k
  obtain ⟨ih0, ih1, ih2, ih3, ih4, ih5, ih6, ih7, ih8⟩ := clerestoryref1_EntityFind.mono_l k
  unfold clerestoryref1_EntityFind.f
  repeat' first
      | (with_reducible exact ih0 _ _ _)
      | (with_reducible exact ih1 _ _ _ _)
      | (with_reducible exact ih2 _ _ _)
      | (with_reducible exact ih3 _ _ _ _ _)
      | (with_reducible exact ih4 _ _ _ _ _ _)
      | (with_reducible exact ih5 _ _ _)
      | (with_reducible exact ih6 _ _ _)
      | (with_reducible exact ih7 _ _ _ _ _)
      | (with_reducible exact ih8 _ _ _ _ _ _)
      | (with_reducible exact clerestoryref1_CharsEncode.mono _ _)
      | (with_reducible exact clerestoryref1_hexOf.mono _ _)
      | (with_reducible exact clerestoryref1_rowOf.mono _ _)
      | (with_reducible exact LeO.refl _)
      | (with_reducible exact LeO.none _)
      | (with_reducible refine LeO.ite ?_ ?_)
      | (with_reducible refine LeO.bind ?_ (fun _ => ?_))
      | exact ih0 _ _ _
      | exact ih1 _ _ _ _
      | exact ih2 _ _ _
      | exact ih3 _ _ _ _ _
      | exact ih4 _ _ _ _ _ _
      | exact ih5 _ _ _
      | exact ih6 _ _ _
      | exact ih7 _ _ _ _ _
      | exact ih8 _ _ _ _ _ _
      | exact clerestoryref1_CharsEncode.mono _ _
      | exact clerestoryref1_hexOf.mono _ _
      | exact clerestoryref1_rowOf.mono _ _
      | exact LeO.none _
      | refine LeO.ite ?_ ?_
      | refine LeO.bind ?_ (fun _ => ?_)
set_option maxHeartbeats 8000000 in
set_option maxRecDepth 100000 in
theorem clerestoryref1_EntityFind.calls (k : Nat) (a0 : ByteArray) (a1 : Bool) (r1 : ByteArray) (r2 : Int) (w : World) (h : clerestoryref1_EntityFind.f k a0 a1 = some (r1, r2)) :
    Calls Tryd.prog 29 #[.string a0, .bool a1] w fun e w' => e = .returned (.tuple #[.string r1, .int .i64 r2]) ∧ Below w.heap.size w w' := by
  have HB := Aside0.mk (Below.refl w.heap.size w)
  have H : (if (a0.size : Int) < 2 then (clerestoryref1_EntityFind.j0 k a0 a1 true) else (if 0 < (a0.size : Int) then (clerestoryref1_EntityFind.j0 k a0 a1 ((bt a0 0) != 38)) else (none))) = some (r1, r2) := h
  clear h
  have HC3 := Aside0.mk H
  clear H
  go_enter Tryd.func29, Tryd.ntmps29
  go_upto_region 1 with (fail)
  go_cut [22] (fun v22 wc => ∃ (kq : Nat) (x22_2 : Bool), v22 = .bool x22_2 ∧ Aside0 (clerestoryref1_EntityFind.j0 kq a0 a1 x22_2 = some (r1, r2)) ∧ Aside0 (kq ≤ k) ∧ Aside0 (Below w.heap.size w wc))
  case first =>
    have H := HC3.out
    clear HC3
    by_cases c4 : (a0.size : Int) < 2
    · rw [if_pos c4] at H
      have c4b0 : decide ((a0.size : Int) < 2) = true := decide_eq_true c4
      have c4b1 : decide (a0.size < 2) = true := decide_eq_true (by omega)
      clear c4
      (first | rw [c4b0] | (simp only [i64_w, i32_w]; rw [c4b0]) | skip)
      have H' := Aside0.mk H
      clear H
      go_wp2
      go_meet
      case rel => exact ⟨_, (true), (by first | rfl | (simp; done) | (simp [*]; done)), H', ⟨by first | omega | exact Nat.le_refl _⟩, ⟨by repeat (first | (with_reducible first | exact HB.out | apply below_alloc | apply pw_below_drewN | apply below_drew1) | exact HB.out)⟩⟩
    · rw [if_neg c4] at H
      have c4b0 : decide ((a0.size : Int) < 2) = false := decide_eq_false c4
      have c4b1 : decide (a0.size < 2) = false := decide_eq_false (by omega)
      clear c4
      (first | rw [c4b0] | (simp only [i64_w, i32_w]; rw [c4b0]) | skip)
      by_cases c5 : 0 < (a0.size : Int)
      · rw [if_pos c5] at H
        have c5b0 : decide (0 < (a0.size : Int)) = true := decide_eq_true c5
        have c5b1 : decide (0 < a0.size) = true := decide_eq_true (by omega)
        clear c5
        have H' := Aside0.mk H
        clear H
        have p6 : 0 ≤ (0 : Int) := (by omega)
        have q6 : 0 < a0.size := (by have : (0 : Int) < (a0.size : Int) := of_decide_eq_true (by first | (with_reducible assumption) | assumption); omega)
        have hx6 : ∀ h : 0 < a0.size, ((a0[0]'h).toNat : Int) = bt a0 0 := bt_at a0 0
        clear p6
        have qi6 : (0 < (a0.size : Int)) = True := eq_true (of_decide_eq_true (by first | (with_reducible assumption) | assumption))
        replace q6 := eq_true q6
        go_wp2
        go_meet
        case rel => exact ⟨_, (((bt a0 0) != 38)), (by first | rfl | (simp; done) | (simp [*]; done)), H', ⟨by first | omega | exact Nat.le_refl _⟩, ⟨by repeat (first | (with_reducible first | exact HB.out | apply below_alloc | apply pw_below_drewN | apply below_drew1) | exact HB.out)⟩⟩
      · rw [if_neg c5] at H
        exact absurd H (by simp)
  case rest =>
    clear HC3
    try clear c2
    try clear p2
    try clear c4
    try clear c4b0
    try clear c4b1
    try clear c5
    try clear c5b0
    try clear c5b1
    try clear p6
    try clear q6
    try clear hx6
    try clear qi6
    try clear p6
    try clear q6
    obtain ⟨kq, x22_2, rfl, HA, HJ2, HB⟩ := hcut
    cases kq with
    | zero => exact absurd HA.out (by simp [clerestoryref1_EntityFind.j0])
    | succ kj2 =>
      have H := HA.out
      clear HA
      simp only [clerestoryref1_EntityFind.j0] at H
      by_cases c7 : x22_2 = true
      · subst c7
        have H1 : (some ((⟨#[]⟩ : ByteArray), 0)) = some (r1, r2) := by rw [if_pos rfl] at H; exact H
        clear H
        have H := H1
        clear H1
        simp only [Option.some.injEq, Prod.mk.injEq] at H
        obtain ⟨rfl, rfl⟩ := H
        go_wp2
        go_ret2
        exact ⟨by first | rfl | (simp [errW_none, errW_some] <;> rfl) | (simp [*, errW_none, errW_some] <;> rfl), by repeat (first | (with_reducible first | exact HB.out | apply below_alloc | apply pw_below_drewN | apply below_drew1) | exact HB.out)⟩
      · replace c7 := Bool.eq_false_iff.mpr c7
        subst c7
        have H1 : (if 1 < (a0.size : Int) then (if (bt a0 1) = 35 then (if (a0.size : Int) > 2 then (if 2 < (a0.size : Int) then (if (bt a0 2) = 120 then (clerestoryref1_EntityFind.j1 kj2 a0 10 2 true) else (clerestoryref1_EntityFind.j1 kj2 a0 10 2 ((bt a0 2) == 88))) else (none)) else (clerestoryref1_EntityFind.j1 kj2 a0 10 2 false)) else (clerestoryref1_EntityFind.l1 kj2 a0 a1 10)) else (none)) = some (r1, r2) := by rw [if_neg (show ¬ (false = true) by decide)] at H; exact H
        clear H
        have H := H1
        clear H1
        by_cases c8 : 1 < (a0.size : Int)
        · rw [if_pos c8] at H
          have c8b0 : decide (1 < (a0.size : Int)) = true := decide_eq_true c8
          have c8b1 : decide (1 < a0.size) = true := decide_eq_true (by omega)
          clear c8
          by_cases c10 : (bt a0 1) = 35
          · rw [if_pos c10] at H
            have c10b0 : ((bt a0 1) == 35) = true := beq_iff_eq.mpr c10
            have c10b1 : ((bt a0 1) != 35) = false := bne_eq_false_iff_eq.mpr c10
            clear c10
            have HC11 := Aside0.mk H
            clear H
            have p9 : 0 ≤ (1 : Int) := (by omega)
            have q9 : 1 < a0.size := (by have : (1 : Int) < (a0.size : Int) := of_decide_eq_true (by first | (with_reducible assumption) | assumption); omega)
            have hx9 : ∀ h : 1 < a0.size, ((a0[1]'h).toNat : Int) = bt a0 1 := bt_at a0 1
            clear p9
            have qi9 : (1 < (a0.size : Int)) = True := eq_true (of_decide_eq_true (by first | (with_reducible assumption) | assumption))
            replace q9 := eq_true q9
            go_upto_region 5 with (fail)
            go_cut [38] (fun v38 wc => ∃ (kq : Nat) (x38_10 : Bool), v38 = .bool x38_10 ∧ Aside0 (clerestoryref1_EntityFind.j1 kq a0 10 2 x38_10 = some (r1, r2)) ∧ Aside0 (kq ≤ kj2) ∧ Aside0 (Below w.heap.size w wc))
            case first =>
              have H := HC11.out
              clear HC11
              by_cases c12 : (a0.size : Int) > 2
              · rw [if_pos c12] at H
                have c12b0 : decide (2 < (a0.size : Int)) = true := decide_eq_true c12
                have c12b1 : decide (2 < a0.size) = true := decide_eq_true (by omega)
                clear c12
                (first | rw [c12b0] | (simp only [i64_w, i32_w]; rw [c12b0]) | skip)
                by_cases c13 : 2 < (a0.size : Int)
                · rw [if_pos c13] at H
                  have c13b0 : decide (2 < (a0.size : Int)) = true := decide_eq_true c13
                  have c13b1 : decide (2 < a0.size) = true := decide_eq_true (by omega)
                  clear c13
                  by_cases c15 : (bt a0 2) = 120
                  · rw [if_pos c15] at H
                    have c15b0 : ((bt a0 2) == 120) = true := beq_iff_eq.mpr c15
                    have c15b1 : ((bt a0 2) != 120) = false := bne_eq_false_iff_eq.mpr c15
                    clear c15
                    have H' := Aside0.mk H
                    clear H
                    have p14 : 0 ≤ (2 : Int) := (by omega)
                    have q14 : 2 < a0.size := (by have : (2 : Int) < (a0.size : Int) := of_decide_eq_true (by first | (with_reducible assumption) | assumption); omega)
                    have hx14 : ∀ h : 2 < a0.size, ((a0[2]'h).toNat : Int) = bt a0 2 := bt_at a0 2
                    clear p14
                    have qi14 : (2 < (a0.size : Int)) = True := eq_true (of_decide_eq_true (by first | (with_reducible assumption) | assumption))
                    replace q14 := eq_true q14
                    go_wp2
                    go_meet
                    case rel => exact ⟨_, (true), (by first | rfl | (simp; done) | (simp [*]; done)), H', ⟨by have := HJ2.out; first | omega | exact Nat.le_refl _⟩, ⟨by repeat (first | (with_reducible first | exact HB.out | apply below_alloc | apply pw_below_drewN | apply below_drew1) | exact HB.out)⟩⟩
                  · rw [if_neg c15] at H
                    have c15b0 : ((bt a0 2) == 120) = false := beq_eq_false_iff_ne.mpr c15
                    have c15b1 : ((bt a0 2) != 120) = true := bne_iff_ne.mpr c15
                    have H' := Aside0.mk H
                    clear H
                    have p14 : 0 ≤ (2 : Int) := (by omega)
                    have q14 : 2 < a0.size := (by have : (2 : Int) < (a0.size : Int) := of_decide_eq_true (by first | (with_reducible assumption) | assumption); omega)
                    have hx14 : ∀ h : 2 < a0.size, ((a0[2]'h).toNat : Int) = bt a0 2 := bt_at a0 2
                    clear p14
                    have qi14 : (2 < (a0.size : Int)) = True := eq_true (of_decide_eq_true (by first | (with_reducible assumption) | assumption))
                    replace q14 := eq_true q14
                    have p16 : 0 ≤ (2 : Int) := (by omega)
                    have q16 : 2 < a0.size := (by have : (2 : Int) < (a0.size : Int) := of_decide_eq_true (by first | (with_reducible assumption) | assumption); omega)
                    have hx16 : ∀ h : 2 < a0.size, ((a0[2]'h).toNat : Int) = bt a0 2 := bt_at a0 2
                    clear p16
                    have qi16 : (2 < (a0.size : Int)) = True := eq_true (of_decide_eq_true (by first | (with_reducible assumption) | assumption))
                    replace q16 := eq_true q16
                    go_wp2
                    go_meet
                    case rel => exact ⟨_, (((bt a0 2) == 88)), (by first | rfl | (simp; done) | (simp [*]; done)), H', ⟨by have := HJ2.out; first | omega | exact Nat.le_refl _⟩, ⟨by repeat (first | (with_reducible first | exact HB.out | apply below_alloc | apply pw_below_drewN | apply below_drew1) | exact HB.out)⟩⟩
                · rw [if_neg c13] at H
                  exact absurd H (by simp)
              · rw [if_neg c12] at H
                have c12b0 : decide (2 < (a0.size : Int)) = false := decide_eq_false c12
                have c12b1 : decide (2 < a0.size) = false := decide_eq_false (by omega)
                clear c12
                (first | rw [c12b0] | (simp only [i64_w, i32_w]; rw [c12b0]) | skip)
                have H' := Aside0.mk H
                clear H
                go_wp2
                go_meet
                case rel => exact ⟨_, (false), (by first | rfl | (simp; done) | (simp [*]; done)), H', ⟨by have := HJ2.out; first | omega | exact Nat.le_refl _⟩, ⟨by repeat (first | (with_reducible first | exact HB.out | apply below_alloc | apply pw_below_drewN | apply below_drew1) | exact HB.out)⟩⟩
            case rest =>
              clear HC11
              try clear c1
              try clear p1
              try clear q1
              try clear hx1
              try clear qi1
              try clear c2
              try clear p2
              try clear c4
              try clear c4b0
              try clear c4b1
              try clear c5
              try clear c5b0
              try clear c5b1
              try clear p6
              try clear q6
              try clear hx6
              try clear qi6
              try clear c7
              try clear c8
              try clear c8b0
              try clear c8b1
              try clear p9
              try clear q9
              try clear hx9
              try clear qi9
              try clear c10
              try clear c10b0
              try clear c10b1
              try clear c12
              try clear c12b0
              try clear c12b1
              try clear c13
              try clear c13b0
              try clear c13b1
              try clear p14
              try clear q14
              try clear hx14
              try clear qi14
              try clear c15
              try clear c15b0
              try clear c15b1
              try clear p16
              try clear q16
              try clear hx16
              try clear qi16
              try clear p14
              try clear p16
              try clear p2
              try clear p6
              try clear p9
              try clear q14
              try clear q16
              try clear q6
              try clear q9
              obtain ⟨kq, x38_10, rfl, HA, HJ10, HB⟩ := hcut
              cases kq with
              | zero => exact absurd HA.out (by simp [clerestoryref1_EntityFind.j1])
              | succ kj10 =>
                have H := HA.out
                clear HA
                simp only [clerestoryref1_EntityFind.j1] at H
                have HC17 := Aside0.mk H
                clear H
                go_upto_if 38 with (fail)
                go_cut [6, 7] (fun v6 v7 wc => ∃ (kq : Nat) (x6_16 : Int) (x7_16 : Int), v6 = .int .i64 x6_16 ∧ v7 = .int .i64 x7_16 ∧ Aside0 (clerestoryref1_EntityFind.j2 kq a0 x6_16 x7_16 = some (r1, r2)) ∧ Aside0 (kq ≤ kj10) ∧ Aside0 (Below w.heap.size w wc))
                case first =>
                  have H := HC17.out
                  clear HC17
                  by_cases c18 : x38_10 = true
                  · subst c18
                    have H1 : (clerestoryref1_EntityFind.j2 kj10 a0 16 3) = some (r1, r2) := by rw [if_pos rfl] at H; exact H
                    clear H
                    have H := H1
                    clear H1
                    have H' := Aside0.mk H
                    clear H
                    go_wp2
                    go_meet
                    case rel => exact ⟨_, (16), (3), (by first | rfl | (simp; done) | (simp [*]; done)), (by first | rfl | (simp; done) | (simp [*]; done)), H', ⟨by have := HJ2.out; have := HJ10.out; first | omega | exact Nat.le_refl _⟩, ⟨by repeat (first | (with_reducible first | exact HB.out | apply below_alloc | apply pw_below_drewN | apply below_drew1) | exact HB.out)⟩⟩
                  · replace c18 := Bool.eq_false_iff.mpr c18
                    subst c18
                    have H1 : (clerestoryref1_EntityFind.j2 kj10 a0 10 2) = some (r1, r2) := by rw [if_neg (show ¬ (false = true) by decide)] at H; exact H
                    clear H
                    have H := H1
                    clear H1
                    have H' := Aside0.mk H
                    clear H
                    go_wp2
                    go_meet
                    case rel => exact ⟨_, (10), (2), (by first | rfl | (simp; done) | (simp [*]; done)), (by first | rfl | (simp; done) | (simp [*]; done)), H', ⟨by have := HJ2.out; have := HJ10.out; first | omega | exact Nat.le_refl _⟩, ⟨by repeat (first | (with_reducible first | exact HB.out | apply below_alloc | apply pw_below_drewN | apply below_drew1) | exact HB.out)⟩⟩
                case rest =>
                  clear HC17
                  try clear c1
                  try clear p1
                  try clear q1
                  try clear hx1
                  try clear qi1
                  try clear c2
                  try clear p2
                  try clear c4
                  try clear c4b0
                  try clear c4b1
                  try clear c5
                  try clear c5b0
                  try clear c5b1
                  try clear p6
                  try clear q6
                  try clear hx6
                  try clear qi6
                  try clear c7
                  try clear c8
                  try clear c8b0
                  try clear c8b1
                  try clear p9
                  try clear q9
                  try clear hx9
                  try clear qi9
                  try clear c10
                  try clear c10b0
                  try clear c10b1
                  try clear c12
                  try clear c12b0
                  try clear c12b1
                  try clear c13
                  try clear c13b0
                  try clear c13b1
                  try clear p14
                  try clear q14
                  try clear hx14
                  try clear qi14
                  try clear c15
                  try clear c15b0
                  try clear c15b1
                  try clear p16
                  try clear q16
                  try clear hx16
                  try clear qi16
                  try clear c18
                  try clear p1
                  try clear p14
                  try clear p16
                  try clear p2
                  try clear p6
                  try clear p9
                  try clear q1
                  try clear q14
                  try clear q16
                  try clear q6
                  try clear q9
                  obtain ⟨kq, x6_16, x7_16, rfl, rfl, HA, HJ16, HB⟩ := hcut
                  cases kq with
                  | zero => exact absurd HA.out (by simp [clerestoryref1_EntityFind.j2])
                  | succ kj16 =>
                    have H := HA.out
                    clear HA
                    simp only [clerestoryref1_EntityFind.j2] at H
                    have H' := Aside0.mk H
                    clear H
                    go_wp2
                    go_loopg [7, 9] kj16 (fun kq v7 v9 w' => ∃ (x7_4 : Int) (x9_4 : Int), v7 = .int .i64 x7_4 ∧ v9 = .int .i64 x9_4 ∧ Aside0 (clerestoryref1_EntityFind.l0 kq a0 x6_16 x7_4 x7_16 x9_4 = some (r1, r2)) ∧ Aside0 (kq ≤ kj16) ∧ Aside0 (Below w.heap.size w w'))
                    case atStart => exact ⟨(x7_16), (0), (by first | rfl | (simp; done) | (simp [*]; done)), (by first | rfl | (simp; done) | (simp [*]; done)), H', ⟨Nat.le_refl _⟩, ⟨by repeat (first | (with_reducible first | exact HB.out | apply below_alloc | apply pw_below_drewN | apply below_drew1) | exact HB.out)⟩⟩
                    case round =>
                      clear H'
                      try clear c1
                      try clear p1
                      try clear q1
                      try clear hx1
                      try clear qi1
                      try clear c2
                      try clear p2
                      try clear c4
                      try clear c4b0
                      try clear c4b1
                      try clear c5
                      try clear c5b0
                      try clear c5b1
                      try clear p6
                      try clear q6
                      try clear hx6
                      try clear qi6
                      try clear c7
                      try clear c8
                      try clear c8b0
                      try clear c8b1
                      try clear p9
                      try clear q9
                      try clear hx9
                      try clear qi9
                      try clear c10
                      try clear c10b0
                      try clear c10b1
                      try clear c12
                      try clear c12b0
                      try clear c12b1
                      try clear c13
                      try clear c13b0
                      try clear c13b1
                      try clear p14
                      try clear q14
                      try clear hx14
                      try clear qi14
                      try clear c15
                      try clear c15b0
                      try clear c15b1
                      try clear p16
                      try clear q16
                      try clear hx16
                      try clear qi16
                      try clear c18
                      try clear p1
                      try clear p14
                      try clear p16
                      try clear p2
                      try clear p6
                      try clear p9
                      try clear q1
                      try clear q14
                      try clear q16
                      try clear q6
                      try clear q9
                      obtain ⟨x7_4, x9_4, rfl, rfl, HA, HK4, HB⟩ := hrel
                      cases gk with
                      | zero => exact absurd HA.out (by simp [clerestoryref1_EntityFind.l0])
                      | succ k4 =>
                        have H := HA.out
                        clear HA
                        simp only [clerestoryref1_EntityFind.l0] at H
                        have HC19 := Aside0.mk H
                        clear H
                        go_upto_region 8 with (fail)
                        go_cut [51] (fun v51 wc => ∃ (kq : Nat) (x51_18 : Bool), v51 = .bool x51_18 ∧ Aside0 (clerestoryref1_EntityFind.j4 kq a0 x6_16 x7_4 x7_16 x9_4 x51_18 = some (r1, r2)) ∧ Aside0 (kq ≤ k4) ∧ Aside0 (Below w.heap.size w wc))
                        case first =>
                          have H := HC19.out
                          clear HC19
                          by_cases c20 : x7_4 < (a0.size : Int)
                          · rw [if_pos c20] at H
                            have c20b0 : decide (x7_4 < (a0.size : Int)) = true := decide_eq_true c20
                            clear c20
                            (first | rw [c20b0] | (simp only [i64_w, i32_w]; rw [c20b0]) | skip)
                            by_cases c21 : 0 ≤ x7_4
                            · rw [if_pos c21] at H
                              have c21b0 : decide (0 ≤ x7_4) = true := decide_eq_true c21
                              clear c21
                              replace H := Option.bind_eq_some_iff.mp H
                              obtain ⟨t165, A230, H⟩ := H
                              replace H : (clerestoryref1_EntityFind.j4 k4 a0 x6_16 x7_4 x7_16 x9_4 (decide (t165 < x6_16))) = some (r1, r2) := H
                              have A23 := Aside0.mk A230
                              clear A230
                              have H' := Aside0.mk H
                              clear H
                              have p22 : 0 ≤ (x7_4 : Int) := of_decide_eq_true (by first | (with_reducible assumption) | assumption)
                              have q22 : x7_4 < (a0.size : Int) := of_decide_eq_true (by first | (with_reducible assumption) | assumption)
                              have hx22 := bt_at a0 x7_4
                              replace p22 := eq_true p22
                              replace q22 := eq_true q22
                              go_wp2_with (first | (go_at_call 40; (with_reducible refine (clerestoryref1_hexOf.calls k4 (bt a0 x7_4) t165 _ A23.out).mono ?_); rintro e w' ⟨rfl, ⟨nd, rfl⟩⟩))
                              go_meet
                              case rel => exact ⟨_, (decide (t165 < x6_16)), (by first | rfl | (simp; done) | (simp [*]; done)), H', ⟨by have := HJ2.out; have := HJ10.out; have := HJ16.out; have := HK4.out; first | omega | exact Nat.le_refl _⟩, ⟨by repeat (first | (with_reducible first | exact HB.out | apply below_alloc | apply pw_below_drewN | apply below_drew1) | exact HB.out)⟩⟩
                            · rw [if_neg c21] at H
                              exact absurd H (by simp)
                          · rw [if_neg c20] at H
                            have c20b0 : decide (x7_4 < (a0.size : Int)) = false := decide_eq_false c20
                            clear c20
                            (first | rw [c20b0] | (simp only [i64_w, i32_w]; rw [c20b0]) | skip)
                            have H' := Aside0.mk H
                            clear H
                            go_wp2
                            go_meet
                            case rel => exact ⟨_, (false), (by first | rfl | (simp; done) | (simp [*]; done)), H', ⟨by have := HJ2.out; have := HJ10.out; have := HJ16.out; have := HK4.out; first | omega | exact Nat.le_refl _⟩, ⟨by repeat (first | (with_reducible first | exact HB.out | apply below_alloc | apply pw_below_drewN | apply below_drew1) | exact HB.out)⟩⟩
                        case rest =>
                          clear HC19
                          try clear c1
                          try clear p1
                          try clear q1
                          try clear hx1
                          try clear qi1
                          try clear c2
                          try clear p2
                          try clear q2
                          try clear hx2
                          try clear c4
                          try clear c4b0
                          try clear c4b1
                          try clear c5
                          try clear c5b0
                          try clear c5b1
                          try clear p6
                          try clear q6
                          try clear hx6
                          try clear qi6
                          try clear c7
                          try clear c8
                          try clear c8b0
                          try clear c8b1
                          try clear p9
                          try clear q9
                          try clear hx9
                          try clear qi9
                          try clear c10
                          try clear c10b0
                          try clear c10b1
                          try clear c12
                          try clear c12b0
                          try clear c12b1
                          try clear c13
                          try clear c13b0
                          try clear c13b1
                          try clear p14
                          try clear q14
                          try clear hx14
                          try clear qi14
                          try clear c15
                          try clear c15b0
                          try clear c15b1
                          try clear p16
                          try clear q16
                          try clear hx16
                          try clear qi16
                          try clear c18
                          try clear c20
                          try clear c20b0
                          try clear c21
                          try clear c21b0
                          try clear p22
                          try clear q22
                          try clear hx22
                          try clear p1
                          try clear p14
                          try clear p16
                          try clear p2
                          try clear p22
                          try clear p6
                          try clear p9
                          try clear q1
                          try clear q14
                          try clear q16
                          try clear q22
                          try clear q6
                          try clear q9
                          obtain ⟨kq, x51_18, rfl, HA, HJ18, HB⟩ := hcut
                          cases kq with
                          | zero => exact absurd HA.out (by simp [clerestoryref1_EntityFind.j4])
                          | succ kj18 =>
                            have H := HA.out
                            clear HA
                            simp only [clerestoryref1_EntityFind.j4] at H
                            by_cases c24 : x51_18 = true
                            · subst c24
                              have H1 : (if 0 ≤ x7_4 then (if x7_4 < (a0.size : Int) then ((clerestoryref1_hexOf.f kj18 (bt a0 x7_4)).bind fun t166 => (if (wrap64 ((wrap64 (x6_16 * x9_4)) + t166)) > 2000000 then (clerestoryref1_EntityFind.l0 kj18 a0 x6_16 (wrap64 (x7_4 + 1)) x7_16 2000000) else (clerestoryref1_EntityFind.l0 kj18 a0 x6_16 (wrap64 (x7_4 + 1)) x7_16 (wrap64 ((wrap64 (x6_16 * x9_4)) + t166))))) else (none)) else (none)) = some (r1, r2) := by rw [if_pos rfl] at H; exact H
                              clear H
                              have H := H1
                              clear H1
                              by_cases c25 : 0 ≤ x7_4
                              · rw [if_pos c25] at H
                                have c25b0 : decide (0 ≤ x7_4) = true := decide_eq_true c25
                                clear c25
                                by_cases c26 : x7_4 < (a0.size : Int)
                                · rw [if_pos c26] at H
                                  have c26b0 : decide (x7_4 < (a0.size : Int)) = true := decide_eq_true c26
                                  clear c26
                                  replace H := Option.bind_eq_some_iff.mp H
                                  obtain ⟨t166, A280, H⟩ := H
                                  replace H : (if (wrap64 ((wrap64 (x6_16 * x9_4)) + t166)) > 2000000 then (clerestoryref1_EntityFind.l0 kj18 a0 x6_16 (wrap64 (x7_4 + 1)) x7_16 2000000) else (clerestoryref1_EntityFind.l0 kj18 a0 x6_16 (wrap64 (x7_4 + 1)) x7_16 (wrap64 ((wrap64 (x6_16 * x9_4)) + t166)))) = some (r1, r2) := H
                                  have A28 := Aside0.mk A280
                                  clear A280
                                  by_cases c29 : (wrap64 ((wrap64 (x6_16 * x9_4)) + t166)) > 2000000
                                  · rw [if_pos c29] at H
                                    have c29b0 : decide (2000000 < (wrap64 ((wrap64 (x6_16 * x9_4)) + t166))) = true := decide_eq_true c29
                                    clear c29
                                    have H' := Aside0.mk H
                                    clear H
                                    have p27 : 0 ≤ (x7_4 : Int) := of_decide_eq_true (by first | (with_reducible assumption) | assumption)
                                    have q27 : x7_4 < (a0.size : Int) := of_decide_eq_true (by first | (with_reducible assumption) | assumption)
                                    have hx27 := bt_at a0 x7_4
                                    replace p27 := eq_true p27
                                    replace q27 := eq_true q27
                                    go_wp2_with (first | ((with_reducible refine gate_callee (f := 40) rfl ?_); refine goesL_ (some 58) rfl rfl Tryd.func40 (by kernel_rfl) rfl #[.int .u8 (bt a0 x7_4)] rfl (by (try simp only [List.map_toArray, List.map_cons, List.map_nil]); first | done | rfl | (simp only [List.length_drop, List.length_take]; rfl)) ?_; (with_reducible refine (clerestoryref1_hexOf.calls kj18 (bt a0 x7_4) t166 _ A28.out).mono ?_); rintro e w' ⟨rfl, ⟨nd, rfl⟩⟩; refine ⟨_, rfl, ?_⟩))
                                    go_roundg kj18
                                    case measure => have := HJ2.out; have := HJ10.out; have := HJ16.out; have := HK4.out; have := HJ18.out; omega
                                    case rel => exact ⟨(wrap64 (x7_4 + 1)), (2000000), (by first | rfl | (simp; done) | (simp [*]; done)), (by first | rfl | (simp; done) | (simp [*]; done)), H', ⟨by have := HJ2.out; have := HJ10.out; have := HJ16.out; have := HK4.out; have := HJ18.out; omega⟩, ⟨by repeat (first | (with_reducible first | exact HB.out | apply below_alloc | apply pw_below_drewN | apply below_drew1) | exact HB.out)⟩⟩
                                  · rw [if_neg c29] at H
                                    have c29b0 : decide (2000000 < (wrap64 ((wrap64 (x6_16 * x9_4)) + t166))) = false := decide_eq_false c29
                                    clear c29
                                    have H' := Aside0.mk H
                                    clear H
                                    have p27 : 0 ≤ (x7_4 : Int) := of_decide_eq_true (by first | (with_reducible assumption) | assumption)
                                    have q27 : x7_4 < (a0.size : Int) := of_decide_eq_true (by first | (with_reducible assumption) | assumption)
                                    have hx27 := bt_at a0 x7_4
                                    replace p27 := eq_true p27
                                    replace q27 := eq_true q27
                                    go_wp2_with (first | ((with_reducible refine gate_callee (f := 40) rfl ?_); refine goesL_ (some 58) rfl rfl Tryd.func40 (by kernel_rfl) rfl #[.int .u8 (bt a0 x7_4)] rfl (by (try simp only [List.map_toArray, List.map_cons, List.map_nil]); first | done | rfl | (simp only [List.length_drop, List.length_take]; rfl)) ?_; (with_reducible refine (clerestoryref1_hexOf.calls kj18 (bt a0 x7_4) t166 _ A28.out).mono ?_); rintro e w' ⟨rfl, ⟨nd, rfl⟩⟩; refine ⟨_, rfl, ?_⟩))
                                    go_roundg kj18
                                    case measure => have := HJ2.out; have := HJ10.out; have := HJ16.out; have := HK4.out; have := HJ18.out; omega
                                    case rel => exact ⟨(wrap64 (x7_4 + 1)), (wrap64 ((wrap64 (x6_16 * x9_4)) + t166)), (by first | rfl | (simp; done) | (simp [*]; done)), (by first | rfl | (simp; done) | (simp [*]; done)), H', ⟨by have := HJ2.out; have := HJ10.out; have := HJ16.out; have := HK4.out; have := HJ18.out; omega⟩, ⟨by repeat (first | (with_reducible first | exact HB.out | apply below_alloc | apply pw_below_drewN | apply below_drew1) | exact HB.out)⟩⟩
                                · rw [if_neg c26] at H
                                  exact absurd H (by simp)
                              · rw [if_neg c25] at H
                                exact absurd H (by simp)
                            · replace c24 := Bool.eq_false_iff.mpr c24
                              subst c24
                              have H1 : (if x7_4 = x7_16 then (some ((⟨#[]⟩ : ByteArray), 0)) else (if x7_4 < (a0.size : Int) then (if 0 ≤ x7_4 then (clerestoryref1_EntityFind.j5 kj18 x7_4 x9_4 ((bt a0 x7_4) == 59)) else (none)) else (clerestoryref1_EntityFind.j5 kj18 x7_4 x9_4 false))) = some (r1, r2) := by rw [if_neg (show ¬ (false = true) by decide)] at H; exact H
                              clear H
                              have H := H1
                              clear H1
                              by_cases c30 : x7_4 = x7_16
                              · rw [if_pos c30] at H
                                have c30b0 : (x7_4 == x7_16) = true := beq_iff_eq.mpr c30
                                have c30b1 : (x7_4 != x7_16) = false := bne_eq_false_iff_eq.mpr c30
                                clear c30
                                simp only [Option.some.injEq, Prod.mk.injEq] at H
                                obtain ⟨rfl, rfl⟩ := H
                                go_wp2
                                go_ret2
                                exact ⟨by first | rfl | (simp [errW_none, errW_some] <;> rfl) | (simp [*, errW_none, errW_some] <;> rfl), by repeat (first | (with_reducible first | exact HB.out | apply below_alloc | apply pw_below_drewN | apply below_drew1) | exact HB.out)⟩
                              · rw [if_neg c30] at H
                                have c30b0 : (x7_4 == x7_16) = false := beq_eq_false_iff_ne.mpr c30
                                have c30b1 : (x7_4 != x7_16) = true := bne_iff_ne.mpr c30
                                have HC31 := Aside0.mk H
                                clear H
                                go_upto_region 15 with (fail)
                                go_cut [76] (fun v76 wc => ∃ (kq : Nat) (x76_30 : Bool), v76 = .bool x76_30 ∧ Aside0 (clerestoryref1_EntityFind.j5 kq x7_4 x9_4 x76_30 = some (r1, r2)) ∧ Aside0 (kq ≤ kj18) ∧ Aside0 (Below w.heap.size w wc))
                                case first =>
                                  have H := HC31.out
                                  clear HC31
                                  by_cases c32 : x7_4 < (a0.size : Int)
                                  · rw [if_pos c32] at H
                                    have c32b0 : decide (x7_4 < (a0.size : Int)) = true := decide_eq_true c32
                                    clear c32
                                    (first | rw [c32b0] | (simp only [i64_w, i32_w]; rw [c32b0]) | skip)
                                    by_cases c33 : 0 ≤ x7_4
                                    · rw [if_pos c33] at H
                                      have c33b0 : decide (0 ≤ x7_4) = true := decide_eq_true c33
                                      clear c33
                                      have H' := Aside0.mk H
                                      clear H
                                      have p34 : 0 ≤ (x7_4 : Int) := of_decide_eq_true (by first | (with_reducible assumption) | assumption)
                                      have q34 : x7_4 < (a0.size : Int) := of_decide_eq_true (by first | (with_reducible assumption) | assumption)
                                      have hx34 := bt_at a0 x7_4
                                      replace p34 := eq_true p34
                                      replace q34 := eq_true q34
                                      go_wp2
                                      go_meet
                                      case rel => exact ⟨_, (((bt a0 x7_4) == 59)), (by first | rfl | (simp; done) | (simp [*]; done)), H', ⟨by have := HJ2.out; have := HJ10.out; have := HJ16.out; have := HK4.out; have := HJ18.out; first | omega | exact Nat.le_refl _⟩, ⟨by repeat (first | (with_reducible first | exact HB.out | apply below_alloc | apply pw_below_drewN | apply below_drew1) | exact HB.out)⟩⟩
                                    · rw [if_neg c33] at H
                                      exact absurd H (by simp)
                                  · rw [if_neg c32] at H
                                    have c32b0 : decide (x7_4 < (a0.size : Int)) = false := decide_eq_false c32
                                    clear c32
                                    (first | rw [c32b0] | (simp only [i64_w, i32_w]; rw [c32b0]) | skip)
                                    have H' := Aside0.mk H
                                    clear H
                                    go_wp2
                                    go_meet
                                    case rel => exact ⟨_, (false), (by first | rfl | (simp; done) | (simp [*]; done)), H', ⟨by have := HJ2.out; have := HJ10.out; have := HJ16.out; have := HK4.out; have := HJ18.out; first | omega | exact Nat.le_refl _⟩, ⟨by repeat (first | (with_reducible first | exact HB.out | apply below_alloc | apply pw_below_drewN | apply below_drew1) | exact HB.out)⟩⟩
                                case rest =>
                                  clear HC31
                                  try clear c1
                                  try clear p1
                                  try clear q1
                                  try clear hx1
                                  try clear qi1
                                  try clear c2
                                  try clear p2
                                  try clear q2
                                  try clear hx2
                                  try clear c3
                                  try clear p3
                                  try clear q3
                                  try clear hx3
                                  try clear c4
                                  try clear c4b0
                                  try clear c4b1
                                  try clear c5
                                  try clear c5b0
                                  try clear c5b1
                                  try clear p6
                                  try clear q6
                                  try clear hx6
                                  try clear qi6
                                  try clear c7
                                  try clear c8
                                  try clear c8b0
                                  try clear c8b1
                                  try clear p9
                                  try clear q9
                                  try clear hx9
                                  try clear qi9
                                  try clear c10
                                  try clear c10b0
                                  try clear c10b1
                                  try clear c12
                                  try clear c12b0
                                  try clear c12b1
                                  try clear c13
                                  try clear c13b0
                                  try clear c13b1
                                  try clear p14
                                  try clear q14
                                  try clear hx14
                                  try clear qi14
                                  try clear c15
                                  try clear c15b0
                                  try clear c15b1
                                  try clear p16
                                  try clear q16
                                  try clear hx16
                                  try clear qi16
                                  try clear c18
                                  try clear c20
                                  try clear c20b0
                                  try clear c21
                                  try clear c21b0
                                  try clear p22
                                  try clear q22
                                  try clear hx22
                                  try clear c24
                                  try clear c25
                                  try clear c25b0
                                  try clear c26
                                  try clear c26b0
                                  try clear p27
                                  try clear q27
                                  try clear hx27
                                  try clear c29
                                  try clear c29b0
                                  try clear c30
                                  try clear c30b0
                                  try clear c30b1
                                  try clear c32
                                  try clear c32b0
                                  try clear c33
                                  try clear c33b0
                                  try clear p34
                                  try clear q34
                                  try clear hx34
                                  try clear p1
                                  try clear p14
                                  try clear p16
                                  try clear p2
                                  try clear p22
                                  try clear p27
                                  try clear p34
                                  try clear p6
                                  try clear p9
                                  try clear q1
                                  try clear q14
                                  try clear q16
                                  try clear q2
                                  try clear q22
                                  try clear q27
                                  try clear q34
                                  try clear q6
                                  try clear q9
                                  obtain ⟨kq, x76_30, rfl, HA, HJ30, HB⟩ := hcut
                                  cases kq with
                                  | zero => exact absurd HA.out (by simp [clerestoryref1_EntityFind.j5])
                                  | succ kj30 =>
                                    have H := HA.out
                                    clear HA
                                    simp only [clerestoryref1_EntityFind.j5] at H
                                    by_cases c35 : x76_30 = true
                                    · subst c35
                                      have H1 : (if x9_4 = 0 then ((clerestoryref1_CharsEncode.f kj30 (([65533] : List Int))).bind fun t170 => (some (t170, wrap64 (x7_4 + 1)))) else (if x9_4 = 13 then ((clerestoryref1_CharsEncode.f kj30 (([65533] : List Int))).bind fun t174 => (some (t174, wrap64 (x7_4 + 1)))) else ((clerestoryref1_CharsEncode.f kj30 (([wrap32 (x9_4)] : List Int))).bind fun t178 => (some (t178, wrap64 (x7_4 + 1)))))) = some (r1, r2) := by rw [if_pos rfl] at H; exact H
                                      clear H
                                      have H := H1
                                      clear H1
                                      by_cases c36 : x9_4 = 0
                                      · rw [if_pos c36] at H
                                        have c36b0 : (x9_4 == 0) = true := beq_iff_eq.mpr c36
                                        have c36b1 : (x9_4 != 0) = false := bne_eq_false_iff_eq.mpr c36
                                        clear c36
                                        obtain ⟨y167, hy167⟩ : ∃ y_ : List Int, y_ = (([65533] : List Int)) := ⟨_, rfl⟩
                                        replace H : ((clerestoryref1_CharsEncode.f kj30 y167).bind fun t170 => (some (t170, wrap64 (x7_4 + 1)))) = some (r1, r2) := by first | (rw [hy167]; with_reducible exact H) | (have H2_ := (Option.bind_some _ _).symm.trans H; rw [hy167]; with_reducible exact H2_) | (have H2_ := (Option.bind_some _ _).symm.trans H; with_reducible exact H2_) | with_reducible exact H | (rw [hy167]; exact H) | exact H
                                        have Ny167 := Aside0.mk hy167
                                        clear hy167
                                        replace H := Option.bind_eq_some_iff.mp H
                                        obtain ⟨t170, A370, H⟩ := H
                                        replace H : (some (t170, wrap64 (x7_4 + 1))) = some (r1, r2) := H
                                        have A37 := Aside0.mk A370
                                        clear A370
                                        simp only [Option.some.injEq, Prod.mk.injEq] at H
                                        obtain ⟨rfl, rfl⟩ := H
                                        go_wp2_with (first | ((with_reducible refine gate_dst (N := 87) rfl ?_); (try (refine gate_guard (by rfl) ?_; dsimp only)); refine Kd.R_lit (Kd.int .i32) _ 21 ?hg (N := 87) ?hd (xs := ([65533] : List Int)) (inner := [.int .i32 65533]) (ok := fun _ => True) (okp := fun _ => True) ?hr ?hp (fun _ hk => hk) trivial (Below.refl _ _) (Nat.le_refl _) (by simp) ?_; (case hd => rfl); (case hg => rfl); (case hr => first | (go_simp; done) | (go_simp; rfl)); (case hp => exact (Reps.one (show Kd.M (Kd.int .i32) _ _ _ 65533 [.int .i32 65533] from rfl) (Reps.none _ _))); intro v168 w38 ho39 hb hg_ hnew_; clear hg_ hnew_; (first | rw [← Ny167.out] at ho39 | (simp only [Int.reduceToNat] at ho39; rw [← Ny167.out] at ho39)); have n0_ := Aside0.mk (Kd.R_lower ho39 (below_size (by repeat (first | (with_reducible first | exact HB.out | apply below_alloc | apply pw_below_drewN | apply below_drew1) | exact HB.out)))); have n1_ := Aside0.mk (below_step (by repeat (first | (with_reducible first | exact HB.out | apply below_alloc | apply pw_below_drewN | apply below_drew1) | exact HB.out)) hb); clear HB; have HO169 := n0_; have HB := n1_; clear n0_ n1_; clear hb ho39; obtain ⟨Ao40, co40, eo40⟩ := Kd.R_slice HO169.out; subst eo40) | ((with_reducible refine gate_callee (f := 11) rfl ?_); refine goesL_ (some 88) rfl rfl Tryd.func11 (by kernel_rfl) rfl #[.slice Ao40 y167.length co40] rfl (by (try simp only [List.map_toArray, List.map_cons, List.map_nil]); first | done | rfl | (simp only [List.length_drop, List.length_take]; rfl)) ?_; (with_reducible refine (clerestoryref1_CharsEncode.calls kj30 _ _ y167 t170 _ ?side1 ?side2 A37.out).mono ?_); (case side1 => repeat (first | exact (Kd.R_reads' HO169.out).2.2 | (with_reducible refine Kd.C_alloc ?_ _) | (with_reducible refine Kd.C_drewN ?_ _) | (with_reducible refine Kd.C_drew ?_))); (case side2 => exact (Kd.R_reads' HO169.out).2.1); rintro e w41 ⟨rfl, hb⟩; refine ⟨_, rfl, ?_⟩; have n0_ := Aside0.mk (Kd.R_below (by (with_reducible repeat (first | apply Kd.R_alloc | apply Kd.R_drewN | apply Kd.R_drew)); exact HO169.out) hb); have n1_ := Aside0.mk (below_step (by repeat (first | (with_reducible first | exact HB.out | apply below_alloc | apply pw_below_drewN | apply below_drew1) | exact HB.out)) hb); clear HO169; clear HB; have HO169 := n0_; have HB := n1_; clear n0_ n1_; (try clear hb); (try clear hb2); (try clear hk); (try clear hi)))
                                        go_ret2
                                        exact ⟨by first | rfl | (simp [errW_none, errW_some] <;> rfl) | (simp [*, errW_none, errW_some] <;> rfl), by repeat (first | (with_reducible first | exact HB.out | apply below_alloc | apply pw_below_drewN | apply below_drew1) | exact HB.out)⟩
                                      · rw [if_neg c36] at H
                                        have c36b0 : (x9_4 == 0) = false := beq_eq_false_iff_ne.mpr c36
                                        have c36b1 : (x9_4 != 0) = true := bne_iff_ne.mpr c36
                                        by_cases c42 : x9_4 = 13
                                        · rw [if_pos c42] at H
                                          have c42b0 : (x9_4 == 13) = true := beq_iff_eq.mpr c42
                                          have c42b1 : (x9_4 != 13) = false := bne_eq_false_iff_eq.mpr c42
                                          clear c42
                                          obtain ⟨y171, hy171⟩ : ∃ y_ : List Int, y_ = (([65533] : List Int)) := ⟨_, rfl⟩
                                          replace H : ((clerestoryref1_CharsEncode.f kj30 y171).bind fun t174 => (some (t174, wrap64 (x7_4 + 1)))) = some (r1, r2) := by first | (rw [hy171]; with_reducible exact H) | (have H2_ := (Option.bind_some _ _).symm.trans H; rw [hy171]; with_reducible exact H2_) | (have H2_ := (Option.bind_some _ _).symm.trans H; with_reducible exact H2_) | with_reducible exact H | (rw [hy171]; exact H) | exact H
                                          have Ny171 := Aside0.mk hy171
                                          clear hy171
                                          replace H := Option.bind_eq_some_iff.mp H
                                          obtain ⟨t174, A430, H⟩ := H
                                          replace H : (some (t174, wrap64 (x7_4 + 1))) = some (r1, r2) := H
                                          have A43 := Aside0.mk A430
                                          clear A430
                                          simp only [Option.some.injEq, Prod.mk.injEq] at H
                                          obtain ⟨rfl, rfl⟩ := H
                                          go_wp2_with (first | ((with_reducible refine gate_dst (N := 87) rfl ?_); (try (refine gate_guard (by rfl) ?_; dsimp only)); refine Kd.R_lit (Kd.int .i32) _ 21 ?hg (N := 87) ?hd (xs := ([65533] : List Int)) (inner := [.int .i32 65533]) (ok := fun _ => True) (okp := fun _ => True) ?hr ?hp (fun _ hk => hk) trivial (Below.refl _ _) (Nat.le_refl _) (by simp) ?_; (case hd => rfl); (case hg => rfl); (case hr => first | (go_simp; done) | (go_simp; rfl)); (case hp => exact (Reps.one (show Kd.M (Kd.int .i32) _ _ _ 65533 [.int .i32 65533] from rfl) (Reps.none _ _))); intro v172 w44 ho45 hb hg_ hnew_; clear hg_ hnew_; (first | rw [← Ny171.out] at ho45 | (simp only [Int.reduceToNat] at ho45; rw [← Ny171.out] at ho45)); have n0_ := Aside0.mk (Kd.R_lower ho45 (below_size (by repeat (first | (with_reducible first | exact HB.out | apply below_alloc | apply pw_below_drewN | apply below_drew1) | exact HB.out)))); have n1_ := Aside0.mk (below_step (by repeat (first | (with_reducible first | exact HB.out | apply below_alloc | apply pw_below_drewN | apply below_drew1) | exact HB.out)) hb); clear HB; have HO173 := n0_; have HB := n1_; clear n0_ n1_; clear hb ho45; obtain ⟨Ao46, co46, eo46⟩ := Kd.R_slice HO173.out; subst eo46) | ((with_reducible refine gate_callee (f := 11) rfl ?_); refine goesL_ (some 88) rfl rfl Tryd.func11 (by kernel_rfl) rfl #[.slice Ao46 y171.length co46] rfl (by (try simp only [List.map_toArray, List.map_cons, List.map_nil]); first | done | rfl | (simp only [List.length_drop, List.length_take]; rfl)) ?_; (with_reducible refine (clerestoryref1_CharsEncode.calls kj30 _ _ y171 t174 _ ?side1 ?side2 A43.out).mono ?_); (case side1 => repeat (first | exact (Kd.R_reads' HO173.out).2.2 | (with_reducible refine Kd.C_alloc ?_ _) | (with_reducible refine Kd.C_drewN ?_ _) | (with_reducible refine Kd.C_drew ?_))); (case side2 => exact (Kd.R_reads' HO173.out).2.1); rintro e w47 ⟨rfl, hb⟩; refine ⟨_, rfl, ?_⟩; have n0_ := Aside0.mk (Kd.R_below (by (with_reducible repeat (first | apply Kd.R_alloc | apply Kd.R_drewN | apply Kd.R_drew)); exact HO173.out) hb); have n1_ := Aside0.mk (below_step (by repeat (first | (with_reducible first | exact HB.out | apply below_alloc | apply pw_below_drewN | apply below_drew1) | exact HB.out)) hb); clear HO173; clear HB; have HO173 := n0_; have HB := n1_; clear n0_ n1_; (try clear hb); (try clear hb2); (try clear hk); (try clear hi)))
                                          go_ret2
                                          exact ⟨by first | rfl | (simp [errW_none, errW_some] <;> rfl) | (simp [*, errW_none, errW_some] <;> rfl), by repeat (first | (with_reducible first | exact HB.out | apply below_alloc | apply pw_below_drewN | apply below_drew1) | exact HB.out)⟩
                                        · rw [if_neg c42] at H
                                          have c42b0 : (x9_4 == 13) = false := beq_eq_false_iff_ne.mpr c42
                                          have c42b1 : (x9_4 != 13) = true := bne_iff_ne.mpr c42
                                          obtain ⟨y175, hy175⟩ : ∃ y_ : List Int, y_ = (([wrap32 (x9_4)] : List Int)) := ⟨_, rfl⟩
                                          replace H : ((clerestoryref1_CharsEncode.f kj30 y175).bind fun t178 => (some (t178, wrap64 (x7_4 + 1)))) = some (r1, r2) := by first | (rw [hy175]; with_reducible exact H) | (have H2_ := (Option.bind_some _ _).symm.trans H; rw [hy175]; with_reducible exact H2_) | (have H2_ := (Option.bind_some _ _).symm.trans H; with_reducible exact H2_) | with_reducible exact H | (rw [hy175]; exact H) | exact H
                                          have Ny175 := Aside0.mk hy175
                                          clear hy175
                                          replace H := Option.bind_eq_some_iff.mp H
                                          obtain ⟨t178, A480, H⟩ := H
                                          replace H : (some (t178, wrap64 (x7_4 + 1))) = some (r1, r2) := H
                                          have A48 := Aside0.mk A480
                                          clear A480
                                          simp only [Option.some.injEq, Prod.mk.injEq] at H
                                          obtain ⟨rfl, rfl⟩ := H
                                          go_wp2_with (first | ((with_reducible refine gate_dst (N := 87) rfl ?_); (try (refine gate_guard (by rfl) ?_; dsimp only)); refine Kd.R_lit (Kd.int .i32) _ 21 ?hg (N := 87) ?hd (xs := ([wrap32 (x9_4)] : List Int)) (inner := [.int .i32 (wrap32 (x9_4))]) (ok := fun _ => True) (okp := fun _ => True) ?hr ?hp (fun _ hk => hk) trivial (Below.refl _ _) (Nat.le_refl _) (by simp) ?_; (case hd => rfl); (case hg => rfl); (case hr => first | (go_simp; done) | (go_simp; rfl)); (case hp => exact (Reps.one (show Kd.M (Kd.int .i32) _ _ _ (wrap32 (x9_4)) [.int .i32 (wrap32 (x9_4))] from rfl) (Reps.none _ _))); intro v176 w49 ho50 hb hg_ hnew_; clear hg_ hnew_; (first | rw [← Ny175.out] at ho50 | (simp only [Int.reduceToNat] at ho50; rw [← Ny175.out] at ho50)); have n0_ := Aside0.mk (Kd.R_lower ho50 (below_size (by repeat (first | (with_reducible first | exact HB.out | apply below_alloc | apply pw_below_drewN | apply below_drew1) | exact HB.out)))); have n1_ := Aside0.mk (below_step (by repeat (first | (with_reducible first | exact HB.out | apply below_alloc | apply pw_below_drewN | apply below_drew1) | exact HB.out)) hb); clear HB; have HO177 := n0_; have HB := n1_; clear n0_ n1_; clear hb ho50; obtain ⟨Ao51, co51, eo51⟩ := Kd.R_slice HO177.out; subst eo51) | ((with_reducible refine gate_callee (f := 11) rfl ?_); refine goesL_ (some 88) rfl rfl Tryd.func11 (by kernel_rfl) rfl #[.slice Ao51 y175.length co51] rfl (by (try simp only [List.map_toArray, List.map_cons, List.map_nil]); first | done | rfl | (simp only [List.length_drop, List.length_take]; rfl)) ?_; (with_reducible refine (clerestoryref1_CharsEncode.calls kj30 _ _ y175 t178 _ ?side1 ?side2 A48.out).mono ?_); (case side1 => repeat (first | exact (Kd.R_reads' HO177.out).2.2 | (with_reducible refine Kd.C_alloc ?_ _) | (with_reducible refine Kd.C_drewN ?_ _) | (with_reducible refine Kd.C_drew ?_))); (case side2 => exact (Kd.R_reads' HO177.out).2.1); rintro e w52 ⟨rfl, hb⟩; refine ⟨_, rfl, ?_⟩; have n0_ := Aside0.mk (Kd.R_below (by (with_reducible repeat (first | apply Kd.R_alloc | apply Kd.R_drewN | apply Kd.R_drew)); exact HO177.out) hb); have n1_ := Aside0.mk (below_step (by repeat (first | (with_reducible first | exact HB.out | apply below_alloc | apply pw_below_drewN | apply below_drew1) | exact HB.out)) hb); clear HO177; clear HB; have HO177 := n0_; have HB := n1_; clear n0_ n1_; (try clear hb); (try clear hb2); (try clear hk); (try clear hi)))
                                          go_ret2
                                          exact ⟨by first | rfl | (simp [errW_none, errW_some] <;> rfl) | (simp [*, errW_none, errW_some] <;> rfl), by repeat (first | (with_reducible first | exact HB.out | apply below_alloc | apply pw_below_drewN | apply below_drew1) | exact HB.out)⟩
                                    · replace c35 := Bool.eq_false_iff.mpr c35
                                      subst c35
                                      have H1 : (if x9_4 = 0 then ((clerestoryref1_CharsEncode.f kj30 (([65533] : List Int))).bind fun t182 => (some (t182, x7_4))) else (if x9_4 = 13 then ((clerestoryref1_CharsEncode.f kj30 (([65533] : List Int))).bind fun t186 => (some (t186, x7_4))) else ((clerestoryref1_CharsEncode.f kj30 (([wrap32 (x9_4)] : List Int))).bind fun t190 => (some (t190, x7_4))))) = some (r1, r2) := by rw [if_neg (show ¬ (false = true) by decide)] at H; exact H
                                      clear H
                                      have H := H1
                                      clear H1
                                      by_cases c53 : x9_4 = 0
                                      · rw [if_pos c53] at H
                                        have c53b0 : (x9_4 == 0) = true := beq_iff_eq.mpr c53
                                        have c53b1 : (x9_4 != 0) = false := bne_eq_false_iff_eq.mpr c53
                                        clear c53
                                        obtain ⟨y179, hy179⟩ : ∃ y_ : List Int, y_ = (([65533] : List Int)) := ⟨_, rfl⟩
                                        replace H : ((clerestoryref1_CharsEncode.f kj30 y179).bind fun t182 => (some (t182, x7_4))) = some (r1, r2) := by first | (rw [hy179]; with_reducible exact H) | (have H2_ := (Option.bind_some _ _).symm.trans H; rw [hy179]; with_reducible exact H2_) | (have H2_ := (Option.bind_some _ _).symm.trans H; with_reducible exact H2_) | with_reducible exact H | (rw [hy179]; exact H) | exact H
                                        have Ny179 := Aside0.mk hy179
                                        clear hy179
                                        replace H := Option.bind_eq_some_iff.mp H
                                        obtain ⟨t182, A540, H⟩ := H
                                        replace H : (some (t182, x7_4)) = some (r1, r2) := H
                                        have A54 := Aside0.mk A540
                                        clear A540
                                        simp only [Option.some.injEq, Prod.mk.injEq] at H
                                        obtain ⟨rfl, rfl⟩ := H
                                        go_wp2_with (first | ((with_reducible refine gate_dst (N := 87) rfl ?_); (try (refine gate_guard (by rfl) ?_; dsimp only)); refine Kd.R_lit (Kd.int .i32) _ 21 ?hg (N := 87) ?hd (xs := ([65533] : List Int)) (inner := [.int .i32 65533]) (ok := fun _ => True) (okp := fun _ => True) ?hr ?hp (fun _ hk => hk) trivial (Below.refl _ _) (Nat.le_refl _) (by simp) ?_; (case hd => rfl); (case hg => rfl); (case hr => first | (go_simp; done) | (go_simp; rfl)); (case hp => exact (Reps.one (show Kd.M (Kd.int .i32) _ _ _ 65533 [.int .i32 65533] from rfl) (Reps.none _ _))); intro v180 w55 ho56 hb hg_ hnew_; clear hg_ hnew_; (first | rw [← Ny179.out] at ho56 | (simp only [Int.reduceToNat] at ho56; rw [← Ny179.out] at ho56)); have n0_ := Aside0.mk (Kd.R_lower ho56 (below_size (by repeat (first | (with_reducible first | exact HB.out | apply below_alloc | apply pw_below_drewN | apply below_drew1) | exact HB.out)))); have n1_ := Aside0.mk (below_step (by repeat (first | (with_reducible first | exact HB.out | apply below_alloc | apply pw_below_drewN | apply below_drew1) | exact HB.out)) hb); clear HB; have HO181 := n0_; have HB := n1_; clear n0_ n1_; clear hb ho56; obtain ⟨Ao57, co57, eo57⟩ := Kd.R_slice HO181.out; subst eo57) | ((with_reducible refine gate_callee (f := 11) rfl ?_); refine goesL_ (some 88) rfl rfl Tryd.func11 (by kernel_rfl) rfl #[.slice Ao57 y179.length co57] rfl (by (try simp only [List.map_toArray, List.map_cons, List.map_nil]); first | done | rfl | (simp only [List.length_drop, List.length_take]; rfl)) ?_; (with_reducible refine (clerestoryref1_CharsEncode.calls kj30 _ _ y179 t182 _ ?side1 ?side2 A54.out).mono ?_); (case side1 => repeat (first | exact (Kd.R_reads' HO181.out).2.2 | (with_reducible refine Kd.C_alloc ?_ _) | (with_reducible refine Kd.C_drewN ?_ _) | (with_reducible refine Kd.C_drew ?_))); (case side2 => exact (Kd.R_reads' HO181.out).2.1); rintro e w58 ⟨rfl, hb⟩; refine ⟨_, rfl, ?_⟩; have n0_ := Aside0.mk (Kd.R_below (by (with_reducible repeat (first | apply Kd.R_alloc | apply Kd.R_drewN | apply Kd.R_drew)); exact HO181.out) hb); have n1_ := Aside0.mk (below_step (by repeat (first | (with_reducible first | exact HB.out | apply below_alloc | apply pw_below_drewN | apply below_drew1) | exact HB.out)) hb); clear HO181; clear HB; have HO181 := n0_; have HB := n1_; clear n0_ n1_; (try clear hb); (try clear hb2); (try clear hk); (try clear hi)))
                                        go_ret2
                                        exact ⟨by first | rfl | (simp [errW_none, errW_some] <;> rfl) | (simp [*, errW_none, errW_some] <;> rfl), by repeat (first | (with_reducible first | exact HB.out | apply below_alloc | apply pw_below_drewN | apply below_drew1) | exact HB.out)⟩
                                      · rw [if_neg c53] at H
                                        have c53b0 : (x9_4 == 0) = false := beq_eq_false_iff_ne.mpr c53
                                        have c53b1 : (x9_4 != 0) = true := bne_iff_ne.mpr c53
                                        by_cases c59 : x9_4 = 13
                                        · rw [if_pos c59] at H
                                          have c59b0 : (x9_4 == 13) = true := beq_iff_eq.mpr c59
                                          have c59b1 : (x9_4 != 13) = false := bne_eq_false_iff_eq.mpr c59
                                          clear c59
                                          obtain ⟨y183, hy183⟩ : ∃ y_ : List Int, y_ = (([65533] : List Int)) := ⟨_, rfl⟩
                                          replace H : ((clerestoryref1_CharsEncode.f kj30 y183).bind fun t186 => (some (t186, x7_4))) = some (r1, r2) := by first | (rw [hy183]; with_reducible exact H) | (have H2_ := (Option.bind_some _ _).symm.trans H; rw [hy183]; with_reducible exact H2_) | (have H2_ := (Option.bind_some _ _).symm.trans H; with_reducible exact H2_) | with_reducible exact H | (rw [hy183]; exact H) | exact H
                                          have Ny183 := Aside0.mk hy183
                                          clear hy183
                                          replace H := Option.bind_eq_some_iff.mp H
                                          obtain ⟨t186, A600, H⟩ := H
                                          replace H : (some (t186, x7_4)) = some (r1, r2) := H
                                          have A60 := Aside0.mk A600
                                          clear A600
                                          simp only [Option.some.injEq, Prod.mk.injEq] at H
                                          obtain ⟨rfl, rfl⟩ := H
                                          go_wp2_with (first | ((with_reducible refine gate_dst (N := 87) rfl ?_); (try (refine gate_guard (by rfl) ?_; dsimp only)); refine Kd.R_lit (Kd.int .i32) _ 21 ?hg (N := 87) ?hd (xs := ([65533] : List Int)) (inner := [.int .i32 65533]) (ok := fun _ => True) (okp := fun _ => True) ?hr ?hp (fun _ hk => hk) trivial (Below.refl _ _) (Nat.le_refl _) (by simp) ?_; (case hd => rfl); (case hg => rfl); (case hr => first | (go_simp; done) | (go_simp; rfl)); (case hp => exact (Reps.one (show Kd.M (Kd.int .i32) _ _ _ 65533 [.int .i32 65533] from rfl) (Reps.none _ _))); intro v184 w61 ho62 hb hg_ hnew_; clear hg_ hnew_; (first | rw [← Ny183.out] at ho62 | (simp only [Int.reduceToNat] at ho62; rw [← Ny183.out] at ho62)); have n0_ := Aside0.mk (Kd.R_lower ho62 (below_size (by repeat (first | (with_reducible first | exact HB.out | apply below_alloc | apply pw_below_drewN | apply below_drew1) | exact HB.out)))); have n1_ := Aside0.mk (below_step (by repeat (first | (with_reducible first | exact HB.out | apply below_alloc | apply pw_below_drewN | apply below_drew1) | exact HB.out)) hb); clear HB; have HO185 := n0_; have HB := n1_; clear n0_ n1_; clear hb ho62; obtain ⟨Ao63, co63, eo63⟩ := Kd.R_slice HO185.out; subst eo63) | ((with_reducible refine gate_callee (f := 11) rfl ?_); refine goesL_ (some 88) rfl rfl Tryd.func11 (by kernel_rfl) rfl #[.slice Ao63 y183.length co63] rfl (by (try simp only [List.map_toArray, List.map_cons, List.map_nil]); first | done | rfl | (simp only [List.length_drop, List.length_take]; rfl)) ?_; (with_reducible refine (clerestoryref1_CharsEncode.calls kj30 _ _ y183 t186 _ ?side1 ?side2 A60.out).mono ?_); (case side1 => repeat (first | exact (Kd.R_reads' HO185.out).2.2 | (with_reducible refine Kd.C_alloc ?_ _) | (with_reducible refine Kd.C_drewN ?_ _) | (with_reducible refine Kd.C_drew ?_))); (case side2 => exact (Kd.R_reads' HO185.out).2.1); rintro e w64 ⟨rfl, hb⟩; refine ⟨_, rfl, ?_⟩; have n0_ := Aside0.mk (Kd.R_below (by (with_reducible repeat (first | apply Kd.R_alloc | apply Kd.R_drewN | apply Kd.R_drew)); exact HO185.out) hb); have n1_ := Aside0.mk (below_step (by repeat (first | (with_reducible first | exact HB.out | apply below_alloc | apply pw_below_drewN | apply below_drew1) | exact HB.out)) hb); clear HO185; clear HB; have HO185 := n0_; have HB := n1_; clear n0_ n1_; (try clear hb); (try clear hb2); (try clear hk); (try clear hi)))
                                          go_ret2
                                          exact ⟨by first | rfl | (simp [errW_none, errW_some] <;> rfl) | (simp [*, errW_none, errW_some] <;> rfl), by repeat (first | (with_reducible first | exact HB.out | apply below_alloc | apply pw_below_drewN | apply below_drew1) | exact HB.out)⟩
                                        · rw [if_neg c59] at H
                                          have c59b0 : (x9_4 == 13) = false := beq_eq_false_iff_ne.mpr c59
                                          have c59b1 : (x9_4 != 13) = true := bne_iff_ne.mpr c59
                                          obtain ⟨y187, hy187⟩ : ∃ y_ : List Int, y_ = (([wrap32 (x9_4)] : List Int)) := ⟨_, rfl⟩
                                          replace H : ((clerestoryref1_CharsEncode.f kj30 y187).bind fun t190 => (some (t190, x7_4))) = some (r1, r2) := by first | (rw [hy187]; with_reducible exact H) | (have H2_ := (Option.bind_some _ _).symm.trans H; rw [hy187]; with_reducible exact H2_) | (have H2_ := (Option.bind_some _ _).symm.trans H; with_reducible exact H2_) | with_reducible exact H | (rw [hy187]; exact H) | exact H
                                          have Ny187 := Aside0.mk hy187
                                          clear hy187
                                          replace H := Option.bind_eq_some_iff.mp H
                                          obtain ⟨t190, A650, H⟩ := H
                                          replace H : (some (t190, x7_4)) = some (r1, r2) := H
                                          have A65 := Aside0.mk A650
                                          clear A650
                                          simp only [Option.some.injEq, Prod.mk.injEq] at H
                                          obtain ⟨rfl, rfl⟩ := H
                                          go_wp2_with (first | ((with_reducible refine gate_dst (N := 87) rfl ?_); (try (refine gate_guard (by rfl) ?_; dsimp only)); refine Kd.R_lit (Kd.int .i32) _ 21 ?hg (N := 87) ?hd (xs := ([wrap32 (x9_4)] : List Int)) (inner := [.int .i32 (wrap32 (x9_4))]) (ok := fun _ => True) (okp := fun _ => True) ?hr ?hp (fun _ hk => hk) trivial (Below.refl _ _) (Nat.le_refl _) (by simp) ?_; (case hd => rfl); (case hg => rfl); (case hr => first | (go_simp; done) | (go_simp; rfl)); (case hp => exact (Reps.one (show Kd.M (Kd.int .i32) _ _ _ (wrap32 (x9_4)) [.int .i32 (wrap32 (x9_4))] from rfl) (Reps.none _ _))); intro v188 w66 ho67 hb hg_ hnew_; clear hg_ hnew_; (first | rw [← Ny187.out] at ho67 | (simp only [Int.reduceToNat] at ho67; rw [← Ny187.out] at ho67)); have n0_ := Aside0.mk (Kd.R_lower ho67 (below_size (by repeat (first | (with_reducible first | exact HB.out | apply below_alloc | apply pw_below_drewN | apply below_drew1) | exact HB.out)))); have n1_ := Aside0.mk (below_step (by repeat (first | (with_reducible first | exact HB.out | apply below_alloc | apply pw_below_drewN | apply below_drew1) | exact HB.out)) hb); clear HB; have HO189 := n0_; have HB := n1_; clear n0_ n1_; clear hb ho67; obtain ⟨Ao68, co68, eo68⟩ := Kd.R_slice HO189.out; subst eo68) | ((with_reducible refine gate_callee (f := 11) rfl ?_); refine goesL_ (some 88) rfl rfl Tryd.func11 (by kernel_rfl) rfl #[.slice Ao68 y187.length co68] rfl (by (try simp only [List.map_toArray, List.map_cons, List.map_nil]); first | done | rfl | (simp only [List.length_drop, List.length_take]; rfl)) ?_; (with_reducible refine (clerestoryref1_CharsEncode.calls kj30 _ _ y187 t190 _ ?side1 ?side2 A65.out).mono ?_); (case side1 => repeat (first | exact (Kd.R_reads' HO189.out).2.2 | (with_reducible refine Kd.C_alloc ?_ _) | (with_reducible refine Kd.C_drewN ?_ _) | (with_reducible refine Kd.C_drew ?_))); (case side2 => exact (Kd.R_reads' HO189.out).2.1); rintro e w69 ⟨rfl, hb⟩; refine ⟨_, rfl, ?_⟩; have n0_ := Aside0.mk (Kd.R_below (by (with_reducible repeat (first | apply Kd.R_alloc | apply Kd.R_drewN | apply Kd.R_drew)); exact HO189.out) hb); have n1_ := Aside0.mk (below_step (by repeat (first | (with_reducible first | exact HB.out | apply below_alloc | apply pw_below_drewN | apply below_drew1) | exact HB.out)) hb); clear HO189; clear HB; have HO189 := n0_; have HB := n1_; clear n0_ n1_; (try clear hb); (try clear hb2); (try clear hk); (try clear hi)))
                                          go_ret2
                                          exact ⟨by first | rfl | (simp [errW_none, errW_some] <;> rfl) | (simp [*, errW_none, errW_some] <;> rfl), by repeat (first | (with_reducible first | exact HB.out | apply below_alloc | apply pw_below_drewN | apply below_drew1) | exact HB.out)⟩
          · rw [if_neg c10] at H
            have c10b0 : ((bt a0 1) == 35) = false := beq_eq_false_iff_ne.mpr c10
            have c10b1 : ((bt a0 1) != 35) = true := bne_iff_ne.mpr c10
            have H' := Aside0.mk H
            clear H
            have p9 : 0 ≤ (1 : Int) := (by omega)
            have q9 : 1 < a0.size := (by have : (1 : Int) < (a0.size : Int) := of_decide_eq_true (by first | (with_reducible assumption) | assumption); omega)
            have hx9 : ∀ h : 1 < a0.size, ((a0[1]'h).toNat : Int) = bt a0 1 := bt_at a0 1
            clear p9
            have qi9 : (1 < (a0.size : Int)) = True := eq_true (of_decide_eq_true (by first | (with_reducible assumption) | assumption))
            replace q9 := eq_true q9
            go_wp2
            go_loopg [10] kj2 (fun kq v10 w' => ∃ (x10_2 : Int), v10 = .int .i64 x10_2 ∧ Aside0 (clerestoryref1_EntityFind.l1 kq a0 a1 x10_2 = some (r1, r2)) ∧ Aside0 (kq ≤ kj2) ∧ Aside0 (Below w.heap.size w w'))
            case atStart => exact ⟨(10), (by first | rfl | (simp; done) | (simp [*]; done)), H', ⟨Nat.le_refl _⟩, ⟨by repeat (first | (with_reducible first | exact HB.out | apply below_alloc | apply pw_below_drewN | apply below_drew1) | exact HB.out)⟩⟩
            case round =>
              clear H'
              try clear c1
              try clear p1
              try clear q1
              try clear hx1
              try clear qi1
              try clear c2
              try clear p2
              try clear q2
              try clear hx2
              try clear c3
              try clear p3
              try clear q3
              try clear hx3
              try clear c4
              try clear c4b0
              try clear c4b1
              try clear c5
              try clear c5b0
              try clear c5b1
              try clear p6
              try clear q6
              try clear hx6
              try clear qi6
              try clear c7
              try clear c8
              try clear c8b0
              try clear c8b1
              try clear p9
              try clear q9
              try clear hx9
              try clear qi9
              try clear c10
              try clear c10b0
              try clear c10b1
              try clear c11
              try clear c12
              try clear c12b0
              try clear c12b1
              try clear c13
              try clear c13b0
              try clear c13b1
              try clear p14
              try clear q14
              try clear hx14
              try clear qi14
              try clear c15
              try clear c15b0
              try clear c15b1
              try clear p16
              try clear q16
              try clear hx16
              try clear qi16
              try clear c18
              try clear c20
              try clear c20b0
              try clear c21
              try clear c21b0
              try clear p22
              try clear q22
              try clear hx22
              try clear c24
              try clear c25
              try clear c25b0
              try clear c26
              try clear c26b0
              try clear p27
              try clear q27
              try clear hx27
              try clear c29
              try clear c29b0
              try clear c30
              try clear c30b0
              try clear c30b1
              try clear c32
              try clear c32b0
              try clear p32
              try clear c33
              try clear c33b0
              try clear p34
              try clear q34
              try clear hx34
              try clear c35
              try clear c36
              try clear c36b0
              try clear c36b1
              try clear c40
              try clear c42
              try clear c42b0
              try clear c42b1
              try clear c53
              try clear c53b0
              try clear c53b1
              try clear c59
              try clear c59b0
              try clear c59b1
              try clear p64
              try clear p1
              try clear p14
              try clear p16
              try clear p2
              try clear p22
              try clear p27
              try clear p3
              try clear p34
              try clear p6
              try clear p9
              try clear q1
              try clear q14
              try clear q16
              try clear q2
              try clear q22
              try clear q27
              try clear q3
              try clear q34
              try clear q6
              try clear q9
              obtain ⟨x10_2, rfl, HA, HK2, HB⟩ := hrel
              cases gk with
              | zero => exact absurd HA.out (by simp [clerestoryref1_EntityFind.l1])
              | succ k2 =>
                have H := HA.out
                clear HA
                simp only [clerestoryref1_EntityFind.l1] at H
                by_cases c70 : x10_2 ≥ 2
                · rw [if_pos c70] at H
                  have c70b0 : decide (2 ≤ x10_2) = true := decide_eq_true c70
                  clear c70
                  by_cases c71 : x10_2 > (a0.size : Int)
                  · rw [if_pos c71] at H
                    have c71b0 : decide ((a0.size : Int) < x10_2) = true := decide_eq_true c71
                    clear c71
                    have H' := Aside0.mk H
                    clear H
                    go_wp2
                    go_roundg k2
                    case measure => have := HJ2.out; have := HK2.out; omega
                    case rel => exact ⟨(wrap64 (x10_2 - 1)), (by first | rfl | (simp; done) | (simp [*]; done)), H', ⟨by have := HJ2.out; have := HK2.out; omega⟩, ⟨by repeat (first | (with_reducible first | exact HB.out | apply below_alloc | apply pw_below_drewN | apply below_drew1) | exact HB.out)⟩⟩
                  · rw [if_neg c71] at H
                    have c71b0 : decide ((a0.size : Int) < x10_2) = false := decide_eq_false c71
                    clear c71
                    by_cases c72 : 1 ≤ x10_2
                    · rw [if_pos c72] at H
                      have c72b0 := eq_true c72
                      have c72b1 : decide (1 ≤ x10_2) = true := decide_eq_true c72
                      clear c72
                      by_cases c73 : x10_2 ≤ (a0.size : Int)
                      · rw [if_pos c73] at H
                        have c73b0 := eq_true c73
                        have c73b1 : decide (x10_2 ≤ (a0.size : Int)) = true := decide_eq_true c73
                        clear c73
                        obtain ⟨ji74, hji74⟩ : ∃ j_ : Int, (wrap64 (((a0.extract 1 (x10_2 : Int).toNat).size : Int) - 1)) = j_ := ⟨_, rfl⟩
                        replace H : (if 0 ≤ (ji74) then (if (ji74) < ((a0.extract 1 (x10_2 : Int).toNat).size : Int) then (if (bt (a0.extract 1 (x10_2 : Int).toNat) (ji74)) = 59 then (if (ji74) ≤ ((a0.extract 1 (x10_2 : Int).toNat).size : Int) then (clerestoryref1_EntityFind.j7 k2 a0 a1 x10_2 ((a0.extract 1 (x10_2 : Int).toNat).extract 0 ((ji74) : Int).toNat) ((bt (a0.extract 1 (x10_2 : Int).toNat) (ji74)) == 59)) else (none)) else (clerestoryref1_EntityFind.j7 k2 a0 a1 x10_2 (a0.extract 1 (x10_2 : Int).toNat) ((bt (a0.extract 1 (x10_2 : Int).toNat) (ji74)) == 59))) else (none)) else (none)) = some (r1, r2) := by first | (rw [hji74] at H; exact H) | (simp only [hji74] at H ⊢; exact H)
                        have hji74w : (IntKind.i64.wrap (((a0.extract 1 (x10_2 : Int).toNat).size : Int) - 1)) = ji74 := (i64_w _).trans hji74
                        by_cases c75 : 0 ≤ (ji74)
                        · rw [if_pos c75] at H
                          have c75b0 : decide (0 ≤ (ji74)) = true := decide_eq_true c75
                          clear c75
                          by_cases c76 : (ji74) < ((a0.extract 1 (x10_2 : Int).toNat).size : Int)
                          · rw [if_pos c76] at H
                            have c76b0 : decide ((ji74) < ((a0.extract 1 (x10_2 : Int).toNat).size : Int)) = true := decide_eq_true c76
                            clear c76
                            have HC78 := Aside0.mk H
                            clear H
                            have p77 : 0 ≤ ((ji74) : Int) := of_decide_eq_true (by first | (with_reducible assumption) | assumption)
                            have q77 : (ji74) < ((a0.extract 1 (x10_2 : Int).toNat).size : Int) := of_decide_eq_true (by first | (with_reducible assumption) | assumption)
                            have hx77 := bt_at (a0.extract 1 (x10_2 : Int).toNat) (ji74)
                            replace p77 := eq_true p77
                            replace q77 := eq_true q77
                            have HSZ : (a0.extract 1 (x10_2 : Int).toNat).size = (x10_2 : Int).toNat - 1 := by (have hz1 := of_eq_true c73b0; simp only [ByteArray.size_extract]; omega)
                            have q77z : ((ji74 : Int) < (((x10_2 : Int).toNat - 1 : Nat) : Int)) = True := by (rw [← HSZ]; exact q77)
                            have c76z : decide ((ji74 : Int) < (((x10_2 : Int).toNat - 1 : Nat) : Int)) = true := by (rw [← HSZ]; exact c76b0)
                            have hjz : wrap64 ((((x10_2 : Int).toNat - 1 : Nat) : Int) - 1) = ji74 := by (rw [← HSZ]; exact hji74)
                            have hjzw : IntKind.i64.wrap ((((x10_2 : Int).toNat - 1 : Nat) : Int) - 1) = ji74 := by (rw [← HSZ]; exact hji74w)
                            have HSZA := Aside0.mk HSZ
                            clear HSZ
                            go_upto_if 107 with (fail)
                            generalize hbz : (bt (a0.extract 1 (x10_2 : Int).toNat) (ji74) == 59) = bz
                            go_cut [11] (fun v11 wc => ∃ (kq : Nat) (x11_77 : ByteArray), v11 = .string x11_77 ∧ Aside0 (clerestoryref1_EntityFind.j7 kq a0 a1 x10_2 x11_77 ((bt (a0.extract 1 (x10_2 : Int).toNat) (ji74)) == 59) = some (r1, r2)) ∧ Aside0 (kq ≤ k2) ∧ Aside0 (Below w.heap.size w wc))
                            case first =>
                              have H := HC78.out
                              clear HC78
                              by_cases c79 : (bt (a0.extract 1 (x10_2 : Int).toNat) (ji74)) = 59
                              · rw [if_pos c79] at H
                                have c79b0 : ((bt (a0.extract 1 (x10_2 : Int).toNat) (ji74)) == 59) = true := beq_iff_eq.mpr c79
                                have c79b1 : ((bt (a0.extract 1 (x10_2 : Int).toNat) (ji74)) != 59) = false := bne_eq_false_iff_eq.mpr c79
                                clear c79
                                (first | rw [c79b0] | (simp only [i64_w, i32_w]; rw [c79b0]) | skip)
                                obtain rfl := hbz.symm.trans c79b0
                                have c80b0 := eq_true (of_decide_eq_true (by first | (with_reducible assumption) | assumption) : 0 ≤ (ji74))
                                by_cases c81 : (ji74) ≤ ((a0.extract 1 (x10_2 : Int).toNat).size : Int)
                                · rw [if_pos c81] at H
                                  have c81b0 := eq_true c81
                                  have c81b1 : decide ((ji74) ≤ ((a0.extract 1 (x10_2 : Int).toNat).size : Int)) = true := decide_eq_true c81
                                  have c81z : decide ((ji74 : Int) ≤ (((x10_2 : Int).toNat - 1 : Nat) : Int)) = true := by (rw [← HSZA.out]; exact c81b1)
                                  have c81y : ((ji74 : Int) ≤ (((x10_2 : Int).toNat - 1 : Nat) : Int)) = True := eq_true (of_decide_eq_true c81z)
                                  clear c81
                                  have H' := Aside0.mk H
                                  clear H
                                  go_wp2
                                  go_meet
                                  case rel => exact ⟨_, ((a0.extract 1 (x10_2 : Int).toNat).extract 0 ((ji74) : Int).toNat), (by first | rfl | (simp; done) | (simp only [← hji74] <;> (first | rfl | simp)) | (simp [*]; done)), H', ⟨by have := HJ2.out; have := HK2.out; first | omega | exact Nat.le_refl _⟩, ⟨by repeat (first | (with_reducible first | exact HB.out | apply below_alloc | apply pw_below_drewN | apply below_drew1) | exact HB.out)⟩⟩
                                · rw [if_neg c81] at H
                                  exact absurd H (by simp)
                              · rw [if_neg c79] at H
                                have c79b0 : ((bt (a0.extract 1 (x10_2 : Int).toNat) (ji74)) == 59) = false := beq_eq_false_iff_ne.mpr c79
                                have c79b1 : ((bt (a0.extract 1 (x10_2 : Int).toNat) (ji74)) != 59) = true := bne_iff_ne.mpr c79
                                (first | rw [c79b0] | (simp only [i64_w, i32_w]; rw [c79b0]) | skip)
                                obtain rfl := hbz.symm.trans c79b0
                                have H' := Aside0.mk H
                                clear H
                                go_wp2
                                go_meet
                                case rel => exact ⟨_, (a0.extract 1 (x10_2 : Int).toNat), (by first | rfl | (simp; done) | (simp [*]; done)), H', ⟨by have := HJ2.out; have := HK2.out; first | omega | exact Nat.le_refl _⟩, ⟨by repeat (first | (with_reducible first | exact HB.out | apply below_alloc | apply pw_below_drewN | apply below_drew1) | exact HB.out)⟩⟩
                            case rest =>
                              subst hbz
                              clear HC78
                              try clear c1
                              try clear p1
                              try clear q1
                              try clear hx1
                              try clear qi1
                              try clear c2
                              try clear p2
                              try clear q2
                              try clear hx2
                              try clear c3
                              try clear p3
                              try clear q3
                              try clear hx3
                              try clear c4
                              try clear c4b0
                              try clear c4b1
                              try clear c5
                              try clear c5b0
                              try clear c5b1
                              try clear p6
                              try clear q6
                              try clear hx6
                              try clear qi6
                              try clear c7
                              try clear p7
                              try clear q7
                              try clear hx7
                              try clear c8
                              try clear c8b0
                              try clear c8b1
                              try clear p9
                              try clear q9
                              try clear hx9
                              try clear qi9
                              try clear c10
                              try clear c10b0
                              try clear c10b1
                              try clear c11
                              try clear c12
                              try clear c12b0
                              try clear c12b1
                              try clear c13
                              try clear c13b0
                              try clear c13b1
                              try clear p14
                              try clear q14
                              try clear hx14
                              try clear qi14
                              try clear c15
                              try clear c15b0
                              try clear c15b1
                              try clear p16
                              try clear q16
                              try clear hx16
                              try clear qi16
                              try clear c18
                              try clear c20
                              try clear c20b0
                              try clear c21
                              try clear c21b0
                              try clear p22
                              try clear q22
                              try clear hx22
                              try clear c24
                              try clear c25
                              try clear c25b0
                              try clear c26
                              try clear c26b0
                              try clear p27
                              try clear q27
                              try clear hx27
                              try clear c29
                              try clear c29b0
                              try clear c30
                              try clear c30b0
                              try clear c30b1
                              try clear c32
                              try clear c32b0
                              try clear p32
                              try clear c33
                              try clear c33b0
                              try clear p34
                              try clear q34
                              try clear hx34
                              try clear c35
                              try clear c36
                              try clear c36b0
                              try clear c36b1
                              try clear c40
                              try clear c42
                              try clear c42b0
                              try clear c42b1
                              try clear c53
                              try clear c53b0
                              try clear c53b1
                              try clear c59
                              try clear c59b0
                              try clear c59b1
                              try clear p64
                              try clear c70
                              try clear c70b0
                              try clear c71
                              try clear c71b0
                              try clear c72
                              try clear c72b0
                              try clear c72b1
                              try clear c73
                              try clear c73b0
                              try clear c73b1
                              try clear c75
                              try clear c75b0
                              try clear c76
                              try clear c76b0
                              try clear p77
                              try clear q77
                              try clear hx77
                              try clear c79
                              try clear c79b0
                              try clear c79b1
                              try clear c80
                              try clear c80b0
                              try clear c81
                              try clear c81b0
                              try clear c81b1
                              try clear p1
                              try clear p14
                              try clear p16
                              try clear p2
                              try clear p22
                              try clear p27
                              try clear p3
                              try clear p32
                              try clear p34
                              try clear p6
                              try clear p64
                              try clear p77
                              try clear p9
                              try clear q1
                              try clear q14
                              try clear q16
                              try clear q2
                              try clear q22
                              try clear q27
                              try clear q3
                              try clear q34
                              try clear q6
                              try clear q77
                              try clear q9
                              obtain ⟨kq, x11_77, rfl, HA, HJ77, HB⟩ := hcut
                              cases kq with
                              | zero => exact absurd HA.out (by simp [clerestoryref1_EntityFind.j7])
                              | succ kj77 =>
                                have H := HA.out
                                clear HA
                                simp only [clerestoryref1_EntityFind.j7] at H
                                replace H := Option.bind_eq_some_iff.mp H
                                obtain ⟨⟨t191, t192⟩, A820, H⟩ := H
                                replace H : (if t191 < 0 then (clerestoryref1_EntityFind.j8 kj77 a0 a1 x10_2 ((bt (a0.extract 1 (x10_2 : Int).toNat) (ji74)) == 59) t191 true) else (if ((bt (a0.extract 1 (x10_2 : Int).toNat) (ji74)) == 59) = true then (clerestoryref1_EntityFind.j8 kj77 a0 a1 x10_2 ((bt (a0.extract 1 (x10_2 : Int).toNat) (ji74)) == 59) t191 false) else (clerestoryref1_EntityFind.j8 kj77 a0 a1 x10_2 ((bt (a0.extract 1 (x10_2 : Int).toNat) (ji74)) == 59) t191 (!t192)))) = some (r1, r2) := H
                                have A82 := Aside0.mk A820
                                clear A820
                                have HC83 := Aside0.mk H
                                clear H
                                go_upto_region 29 with (first | ((with_reducible refine gate_callee (f := 41) rfl ?_); refine goesL_ (some 115) rfl rfl Tryd.func41 (by kernel_rfl) rfl #[.string x11_77] rfl (by (try simp only [List.map_toArray, List.map_cons, List.map_nil]); first | done | rfl | (simp only [List.length_drop, List.length_take]; rfl)) ?_; (with_reducible refine (clerestoryref1_rowOf.calls kj77 x11_77 t191 t192 _ A82.out).mono ?_); rintro e w' ⟨rfl, ⟨nd, rfl⟩⟩; refine ⟨_, rfl, ?_⟩))
                                (try simp only [Act.put, List.setIfInBounds_toArray, List.set_cons_zero, List.set_cons_succ])
                                go_cut [127] (fun v127 wc => ∃ (kq : Nat) (x127_82 : Bool), v127 = .bool x127_82 ∧ Aside0 (clerestoryref1_EntityFind.j8 kq a0 a1 x10_2 ((bt (a0.extract 1 (x10_2 : Int).toNat) (ji74)) == 59) t191 x127_82 = some (r1, r2)) ∧ Aside0 (kq ≤ kj77) ∧ Aside0 (Below w.heap.size w wc))
                                case first =>
                                  have H := HC83.out
                                  clear HC83
                                  by_cases c84 : t191 < 0
                                  · rw [if_pos c84] at H
                                    have c84b0 : decide (t191 < 0) = true := decide_eq_true c84
                                    clear c84
                                    (first | rw [c84b0] | (simp only [i64_w, i32_w]; rw [c84b0]) | skip)
                                    have H' := Aside0.mk H
                                    clear H
                                    go_wp2
                                    go_meet
                                    case rel => exact ⟨_, (true), (by first | rfl | (simp; done) | (simp [*]; done)), H', ⟨by have := HJ2.out; have := HK2.out; have := HJ77.out; first | omega | exact Nat.le_refl _⟩, ⟨by repeat (first | (with_reducible first | exact HB.out | apply below_alloc | apply pw_below_drewN | apply below_drew1) | exact HB.out)⟩⟩
                                  · rw [if_neg c84] at H
                                    have c84b0 : decide (t191 < 0) = false := decide_eq_false c84
                                    clear c84
                                    (first | rw [c84b0] | (simp only [i64_w, i32_w]; rw [c84b0]) | skip)
                                    by_cases c85 : ((bt (a0.extract 1 (x10_2 : Int).toNat) (ji74)) == 59) = true
                                    · rw [if_pos c85] at H
                                      have c85b0 : ((bt (a0.extract 1 (x10_2 : Int).toNat) (ji74)) == 59) = true := c85
                                      (try (have c85b1 : decide ((bt (a0.extract 1 (x10_2 : Int).toNat) (ji74)) = 59) = true := by simpa using c85))
                                      (try (have c85b2 : ((bt (a0.extract 1 (x10_2 : Int).toNat) (ji74)) == 59) = true := by simpa using c85))
                                      clear c85
                                      have H' := Aside0.mk H
                                      clear H
                                      go_wp2
                                      go_meet
                                      case rel => exact ⟨_, (false), (by first | rfl | (simp; done) | (simp [*]; done)), H', ⟨by have := HJ2.out; have := HK2.out; have := HJ77.out; first | omega | exact Nat.le_refl _⟩, ⟨by repeat (first | (with_reducible first | exact HB.out | apply below_alloc | apply pw_below_drewN | apply below_drew1) | exact HB.out)⟩⟩
                                    · rw [if_neg c85] at H
                                      have c85b0 : ((bt (a0.extract 1 (x10_2 : Int).toNat) (ji74)) == 59) = false := by simpa using c85
                                      (try (have c85b1 : decide ((bt (a0.extract 1 (x10_2 : Int).toNat) (ji74)) = 59) = false := by simpa using c85))
                                      (try (have c85b2 : ((bt (a0.extract 1 (x10_2 : Int).toNat) (ji74)) == 59) = false := by simpa using c85))
                                      (try (have c85b3 : ¬ ((bt (a0.extract 1 (x10_2 : Int).toNat) (ji74)) = 59) := by simpa using c85))
                                      clear c85
                                      have H' := Aside0.mk H
                                      clear H
                                      go_wp2
                                      go_meet
                                      case rel => exact ⟨_, (!t192), (by first | rfl | (simp; done) | (simp [*]; done)), H', ⟨by have := HJ2.out; have := HK2.out; have := HJ77.out; first | omega | exact Nat.le_refl _⟩, ⟨by repeat (first | (with_reducible first | exact HB.out | apply below_alloc | apply pw_below_drewN | apply below_drew1) | exact HB.out)⟩⟩
                                case rest =>
                                  clear HC83
                                  try clear c1
                                  try clear p1
                                  try clear q1
                                  try clear hx1
                                  try clear qi1
                                  try clear c2
                                  try clear p2
                                  try clear q2
                                  try clear hx2
                                  try clear c3
                                  try clear p3
                                  try clear q3
                                  try clear hx3
                                  try clear c4
                                  try clear c4b0
                                  try clear c4b1
                                  try clear c5
                                  try clear c5b0
                                  try clear c5b1
                                  try clear p6
                                  try clear q6
                                  try clear hx6
                                  try clear qi6
                                  try clear c7
                                  try clear p7
                                  try clear q7
                                  try clear hx7
                                  try clear c8
                                  try clear c8b0
                                  try clear c8b1
                                  try clear p9
                                  try clear q9
                                  try clear hx9
                                  try clear qi9
                                  try clear c10
                                  try clear c10b0
                                  try clear c10b1
                                  try clear c11
                                  try clear c12
                                  try clear c12b0
                                  try clear c12b1
                                  try clear c13
                                  try clear c13b0
                                  try clear c13b1
                                  try clear p14
                                  try clear q14
                                  try clear hx14
                                  try clear qi14
                                  try clear c15
                                  try clear c15b0
                                  try clear c15b1
                                  try clear p16
                                  try clear q16
                                  try clear hx16
                                  try clear qi16
                                  try clear c18
                                  try clear c20
                                  try clear c20b0
                                  try clear c21
                                  try clear c21b0
                                  try clear p22
                                  try clear q22
                                  try clear hx22
                                  try clear c24
                                  try clear c25
                                  try clear c25b0
                                  try clear c26
                                  try clear c26b0
                                  try clear p27
                                  try clear q27
                                  try clear hx27
                                  try clear c29
                                  try clear c29b0
                                  try clear c30
                                  try clear c30b0
                                  try clear c30b1
                                  try clear c32
                                  try clear c32b0
                                  try clear p32
                                  try clear c33
                                  try clear c33b0
                                  try clear p34
                                  try clear q34
                                  try clear hx34
                                  try clear c35
                                  try clear c36
                                  try clear c36b0
                                  try clear c36b1
                                  try clear c40
                                  try clear c41
                                  try clear c42
                                  try clear c42b0
                                  try clear c42b1
                                  try clear c53
                                  try clear c53b0
                                  try clear c53b1
                                  try clear c59
                                  try clear c59b0
                                  try clear c59b1
                                  try clear p64
                                  try clear c70
                                  try clear c70b0
                                  try clear c71
                                  try clear c71b0
                                  try clear c72
                                  try clear c72b0
                                  try clear c72b1
                                  try clear c73
                                  try clear c73b0
                                  try clear c73b1
                                  try clear c75
                                  try clear c75b0
                                  try clear c76
                                  try clear c76b0
                                  try clear p77
                                  try clear q77
                                  try clear hx77
                                  try clear c79
                                  try clear c79b0
                                  try clear c79b1
                                  try clear c80
                                  try clear c80b0
                                  try clear c81
                                  try clear c81b0
                                  try clear c81b1
                                  try clear c84
                                  try clear c84b0
                                  try clear c85
                                  try clear c85b0
                                  try clear c85b1
                                  try clear c85b2
                                  try clear p1
                                  try clear p14
                                  try clear p16
                                  try clear p2
                                  try clear p22
                                  try clear p27
                                  try clear p3
                                  try clear p32
                                  try clear p34
                                  try clear p6
                                  try clear p64
                                  try clear p7
                                  try clear p77
                                  try clear p9
                                  try clear q1
                                  try clear q14
                                  try clear q16
                                  try clear q2
                                  try clear q22
                                  try clear q27
                                  try clear q3
                                  try clear q34
                                  try clear q6
                                  try clear q7
                                  try clear q77
                                  try clear q9
                                  obtain ⟨kq, x127_82, rfl, HA, HJ82, HB⟩ := hcut
                                  cases kq with
                                  | zero => exact absurd HA.out (by simp [clerestoryref1_EntityFind.j8])
                                  | succ kj82 =>
                                    have H := HA.out
                                    clear HA
                                    simp only [clerestoryref1_EntityFind.j8] at H
                                    by_cases c86 : x127_82 = true
                                    · subst c86
                                      have H1 : (clerestoryref1_EntityFind.l1 kj82 a0 a1 (wrap64 (x10_2 - 1))) = some (r1, r2) := by rw [if_pos rfl] at H; exact H
                                      clear H
                                      have H := H1
                                      clear H1
                                      have H' := Aside0.mk H
                                      clear H
                                      go_wp2
                                      go_roundg kj82
                                      case measure => have := HJ2.out; have := HK2.out; have := HJ77.out; have := HJ82.out; omega
                                      case rel => exact ⟨(wrap64 (x10_2 - 1)), (by first | rfl | (simp; done) | (simp [*]; done)), H', ⟨by have := HJ2.out; have := HK2.out; have := HJ77.out; have := HJ82.out; omega⟩, ⟨by repeat (first | (with_reducible first | exact HB.out | apply below_alloc | apply pw_below_drewN | apply below_drew1) | exact HB.out)⟩⟩
                                    · replace c86 := Bool.eq_false_iff.mpr c86
                                      subst c86
                                      have H1 : (if ((bt (a0.extract 1 (x10_2 : Int).toNat) (ji74)) == 59) = true then ((clerestoryref1_CharsEncode.f kj82 (([wrap32 (t191)] : List Int))).bind fun t196 => (some (t196, x10_2))) else (if a1 = true then (if x10_2 < (a0.size : Int) then (if 0 ≤ x10_2 then (if (bt a0 x10_2) = 61 then (some ((⟨#[]⟩ : ByteArray), 0)) else ((clerestoryref1_letterOrDigit.f (bt a0 x10_2)).bind fun t197 => (if t197 = true then (some ((⟨#[]⟩ : ByteArray), 0)) else ((clerestoryref1_CharsEncode.f kj82 (([wrap32 (t191)] : List Int))).bind fun t201 => (some (t201, x10_2)))))) else (none)) else ((clerestoryref1_CharsEncode.f kj82 (([wrap32 (t191)] : List Int))).bind fun t205 => (some (t205, x10_2)))) else ((clerestoryref1_CharsEncode.f kj82 (([wrap32 (t191)] : List Int))).bind fun t209 => (some (t209, x10_2))))) = some (r1, r2) := by rw [if_neg (show ¬ (false = true) by decide)] at H; exact H
                                      clear H
                                      have H := H1
                                      clear H1
                                      by_cases c87 : ((bt (a0.extract 1 (x10_2 : Int).toNat) (ji74)) == 59) = true
                                      · rw [if_pos c87] at H
                                        have c87b0 : ((bt (a0.extract 1 (x10_2 : Int).toNat) (ji74)) == 59) = true := c87
                                        (try (have c87b1 : decide ((bt (a0.extract 1 (x10_2 : Int).toNat) (ji74)) = 59) = true := by simpa using c87))
                                        (try (have c87b2 : ((bt (a0.extract 1 (x10_2 : Int).toNat) (ji74)) == 59) = true := by simpa using c87))
                                        clear c87
                                        obtain ⟨y193, hy193⟩ : ∃ y_ : List Int, y_ = (([wrap32 (t191)] : List Int)) := ⟨_, rfl⟩
                                        replace H : ((clerestoryref1_CharsEncode.f kj82 y193).bind fun t196 => (some (t196, x10_2))) = some (r1, r2) := by first | (rw [hy193]; with_reducible exact H) | (have H2_ := (Option.bind_some _ _).symm.trans H; rw [hy193]; with_reducible exact H2_) | (have H2_ := (Option.bind_some _ _).symm.trans H; with_reducible exact H2_) | with_reducible exact H | (rw [hy193]; exact H) | exact H
                                        have Ny193 := Aside0.mk hy193
                                        clear hy193
                                        replace H := Option.bind_eq_some_iff.mp H
                                        obtain ⟨t196, A880, H⟩ := H
                                        replace H : (some (t196, x10_2)) = some (r1, r2) := H
                                        have A88 := Aside0.mk A880
                                        clear A880
                                        simp only [Option.some.injEq, Prod.mk.injEq] at H
                                        obtain ⟨rfl, rfl⟩ := H
                                        go_wp2_with (first | ((with_reducible refine gate_dst (N := 153) rfl ?_); (try (refine gate_guard (by rfl) ?_; dsimp only)); refine Kd.R_lit (Kd.int .i32) _ 21 ?hg (N := 153) ?hd (xs := ([wrap32 (t191)] : List Int)) (inner := [.int .i32 (wrap32 (t191))]) (ok := fun _ => True) (okp := fun _ => True) ?hr ?hp (fun _ hk => hk) trivial (Below.refl _ _) (Nat.le_refl _) (by simp) ?_; (case hd => rfl); (case hg => rfl); (case hr => first | (go_simp; done) | (go_simp; rfl)); (case hp => exact (Reps.one (show Kd.M (Kd.int .i32) _ _ _ (wrap32 (t191)) [.int .i32 (wrap32 (t191))] from rfl) (Reps.none _ _))); intro v194 w89 ho90 hb hg_ hnew_; clear hg_ hnew_; (first | rw [← Ny193.out] at ho90 | (simp only [Int.reduceToNat] at ho90; rw [← Ny193.out] at ho90)); have n0_ := Aside0.mk (Kd.R_lower ho90 (below_size (by repeat (first | (with_reducible first | exact HB.out | apply below_alloc | apply pw_below_drewN | apply below_drew1) | exact HB.out)))); have n1_ := Aside0.mk (below_step (by repeat (first | (with_reducible first | exact HB.out | apply below_alloc | apply pw_below_drewN | apply below_drew1) | exact HB.out)) hb); clear HB; have HO195 := n0_; have HB := n1_; clear n0_ n1_; clear hb ho90; obtain ⟨Ao91, co91, eo91⟩ := Kd.R_slice HO195.out; subst eo91) | ((with_reducible refine gate_callee (f := 11) rfl ?_); refine goesL_ (some 154) rfl rfl Tryd.func11 (by kernel_rfl) rfl #[.slice Ao91 y193.length co91] rfl (by (try simp only [List.map_toArray, List.map_cons, List.map_nil]); first | done | rfl | (simp only [List.length_drop, List.length_take]; rfl)) ?_; (with_reducible refine (clerestoryref1_CharsEncode.calls kj82 _ _ y193 t196 _ ?side1 ?side2 A88.out).mono ?_); (case side1 => repeat (first | exact (Kd.R_reads' HO195.out).2.2 | (with_reducible refine Kd.C_alloc ?_ _) | (with_reducible refine Kd.C_drewN ?_ _) | (with_reducible refine Kd.C_drew ?_))); (case side2 => exact (Kd.R_reads' HO195.out).2.1); rintro e w92 ⟨rfl, hb⟩; refine ⟨_, rfl, ?_⟩; have n0_ := Aside0.mk (Kd.R_below (by (with_reducible repeat (first | apply Kd.R_alloc | apply Kd.R_drewN | apply Kd.R_drew)); exact HO195.out) hb); have n1_ := Aside0.mk (below_step (by repeat (first | (with_reducible first | exact HB.out | apply below_alloc | apply pw_below_drewN | apply below_drew1) | exact HB.out)) hb); clear HO195; clear HB; have HO195 := n0_; have HB := n1_; clear n0_ n1_; (try clear hb); (try clear hb2); (try clear hk); (try clear hi)))
                                        go_ret2
                                        exact ⟨by first | rfl | (simp [errW_none, errW_some] <;> rfl) | (simp only [← hji74]; first | rfl | (simp [errW_none, errW_some] <;> rfl)) | (simp [*, errW_none, errW_some] <;> rfl), by repeat (first | (with_reducible first | exact HB.out | apply below_alloc | apply pw_below_drewN | apply below_drew1) | exact HB.out)⟩
                                      · rw [if_neg c87] at H
                                        have c87b0 : ((bt (a0.extract 1 (x10_2 : Int).toNat) (ji74)) == 59) = false := by simpa using c87
                                        (try (have c87b1 : decide ((bt (a0.extract 1 (x10_2 : Int).toNat) (ji74)) = 59) = false := by simpa using c87))
                                        (try (have c87b2 : ((bt (a0.extract 1 (x10_2 : Int).toNat) (ji74)) == 59) = false := by simpa using c87))
                                        (try (have c87b3 : ¬ ((bt (a0.extract 1 (x10_2 : Int).toNat) (ji74)) = 59) := by simpa using c87))
                                        clear c87
                                        by_cases c93 : a1 = true
                                        · subst c93
                                          have H1 : (if x10_2 < (a0.size : Int) then (if 0 ≤ x10_2 then (if (bt a0 x10_2) = 61 then (some ((⟨#[]⟩ : ByteArray), 0)) else ((clerestoryref1_letterOrDigit.f (bt a0 x10_2)).bind fun t197 => (if t197 = true then (some ((⟨#[]⟩ : ByteArray), 0)) else ((clerestoryref1_CharsEncode.f kj82 (([wrap32 (t191)] : List Int))).bind fun t201 => (some (t201, x10_2)))))) else (none)) else ((clerestoryref1_CharsEncode.f kj82 (([wrap32 (t191)] : List Int))).bind fun t205 => (some (t205, x10_2)))) = some (r1, r2) := by rw [if_pos rfl] at H; exact H
                                          clear H
                                          have H := H1
                                          clear H1
                                          by_cases c94 : x10_2 < (a0.size : Int)
                                          · rw [if_pos c94] at H
                                            have c94b0 : decide (x10_2 < (a0.size : Int)) = true := decide_eq_true c94
                                            clear c94
                                            by_cases c95 : 0 ≤ x10_2
                                            · rw [if_pos c95] at H
                                              have c95b0 : decide (0 ≤ x10_2) = true := decide_eq_true c95
                                              clear c95
                                              by_cases c97 : (bt a0 x10_2) = 61
                                              · rw [if_pos c97] at H
                                                have c97b0 : ((bt a0 x10_2) == 61) = true := beq_iff_eq.mpr c97
                                                have c97b1 : ((bt a0 x10_2) != 61) = false := bne_eq_false_iff_eq.mpr c97
                                                clear c97
                                                simp only [Option.some.injEq, Prod.mk.injEq] at H
                                                obtain ⟨rfl, rfl⟩ := H
                                                have p96 : 0 ≤ (x10_2 : Int) := of_decide_eq_true (by first | (with_reducible assumption) | assumption)
                                                have q96 : x10_2 < (a0.size : Int) := of_decide_eq_true (by first | (with_reducible assumption) | assumption)
                                                have hx96 := bt_at a0 x10_2
                                                replace p96 := eq_true p96
                                                replace q96 := eq_true q96
                                                go_wp2
                                                go_ret2
                                                exact ⟨by first | rfl | (simp [errW_none, errW_some] <;> rfl) | (simp only [← hji74]; first | rfl | (simp [errW_none, errW_some] <;> rfl)) | (simp [*, errW_none, errW_some] <;> rfl), by repeat (first | (with_reducible first | exact HB.out | apply below_alloc | apply pw_below_drewN | apply below_drew1) | exact HB.out)⟩
                                              · rw [if_neg c97] at H
                                                have c97b0 : ((bt a0 x10_2) == 61) = false := beq_eq_false_iff_ne.mpr c97
                                                have c97b1 : ((bt a0 x10_2) != 61) = true := bne_iff_ne.mpr c97
                                                replace H := Option.bind_eq_some_iff.mp H
                                                obtain ⟨t197, A990, H⟩ := H
                                                replace H : (if t197 = true then (some ((⟨#[]⟩ : ByteArray), 0)) else ((clerestoryref1_CharsEncode.f kj82 (([wrap32 (t191)] : List Int))).bind fun t201 => (some (t201, x10_2)))) = some (r1, r2) := H
                                                have A99 := Aside0.mk A990
                                                clear A990
                                                by_cases c100 : t197 = true
                                                · subst c100
                                                  have H1 : (some ((⟨#[]⟩ : ByteArray), 0)) = some (r1, r2) := by rw [if_pos rfl] at H; exact H
                                                  clear H
                                                  have H := H1
                                                  clear H1
                                                  simp only [Option.some.injEq, Prod.mk.injEq] at H
                                                  obtain ⟨rfl, rfl⟩ := H
                                                  have p96 : 0 ≤ (x10_2 : Int) := of_decide_eq_true (by first | (with_reducible assumption) | assumption)
                                                  have q96 : x10_2 < (a0.size : Int) := of_decide_eq_true (by first | (with_reducible assumption) | assumption)
                                                  have hx96 := bt_at a0 x10_2
                                                  replace p96 := eq_true p96
                                                  replace q96 := eq_true q96
                                                  have p98 : 0 ≤ (x10_2 : Int) := of_decide_eq_true (by first | (with_reducible assumption) | assumption)
                                                  have q98 : x10_2 < (a0.size : Int) := of_decide_eq_true (by first | (with_reducible assumption) | assumption)
                                                  have hx98 := bt_at a0 x10_2
                                                  replace p98 := eq_true p98
                                                  replace q98 := eq_true q98
                                                  go_wp2_with (first | (go_at_call 42; (with_reducible refine (clerestoryref1_letterOrDigit.calls (bt a0 x10_2) true _ A99.out).mono ?_); rintro e w' ⟨rfl, ⟨nd, rfl⟩⟩))
                                                  go_ret2
                                                  exact ⟨by first | rfl | (simp [errW_none, errW_some] <;> rfl) | (simp only [← hji74]; first | rfl | (simp [errW_none, errW_some] <;> rfl)) | (simp [*, errW_none, errW_some] <;> rfl), by repeat (first | (with_reducible first | exact HB.out | apply below_alloc | apply pw_below_drewN | apply below_drew1) | exact HB.out)⟩
                                                · replace c100 := Bool.eq_false_iff.mpr c100
                                                  subst c100
                                                  have H1 : ((clerestoryref1_CharsEncode.f kj82 (([wrap32 (t191)] : List Int))).bind fun t201 => (some (t201, x10_2))) = some (r1, r2) := by rw [if_neg (show ¬ (false = true) by decide)] at H; exact H
                                                  clear H
                                                  have H := H1
                                                  clear H1
                                                  obtain ⟨y198, hy198⟩ : ∃ y_ : List Int, y_ = (([wrap32 (t191)] : List Int)) := ⟨_, rfl⟩
                                                  replace H : ((clerestoryref1_CharsEncode.f kj82 y198).bind fun t201 => (some (t201, x10_2))) = some (r1, r2) := by first | (rw [hy198]; with_reducible exact H) | (have H2_ := (Option.bind_some _ _).symm.trans H; rw [hy198]; with_reducible exact H2_) | (have H2_ := (Option.bind_some _ _).symm.trans H; with_reducible exact H2_) | with_reducible exact H | (rw [hy198]; exact H) | exact H
                                                  have Ny198 := Aside0.mk hy198
                                                  clear hy198
                                                  replace H := Option.bind_eq_some_iff.mp H
                                                  obtain ⟨t201, A1010, H⟩ := H
                                                  replace H : (some (t201, x10_2)) = some (r1, r2) := H
                                                  have A101 := Aside0.mk A1010
                                                  clear A1010
                                                  simp only [Option.some.injEq, Prod.mk.injEq] at H
                                                  obtain ⟨rfl, rfl⟩ := H
                                                  have p96 : 0 ≤ (x10_2 : Int) := of_decide_eq_true (by first | (with_reducible assumption) | assumption)
                                                  have q96 : x10_2 < (a0.size : Int) := of_decide_eq_true (by first | (with_reducible assumption) | assumption)
                                                  have hx96 := bt_at a0 x10_2
                                                  replace p96 := eq_true p96
                                                  replace q96 := eq_true q96
                                                  have p98 : 0 ≤ (x10_2 : Int) := of_decide_eq_true (by first | (with_reducible assumption) | assumption)
                                                  have q98 : x10_2 < (a0.size : Int) := of_decide_eq_true (by first | (with_reducible assumption) | assumption)
                                                  have hx98 := bt_at a0 x10_2
                                                  replace p98 := eq_true p98
                                                  replace q98 := eq_true q98
                                                  go_wp2_with (first | (go_at_call 42; (with_reducible refine (clerestoryref1_letterOrDigit.calls (bt a0 x10_2) false _ A99.out).mono ?_); rintro e w' ⟨rfl, ⟨nd, rfl⟩⟩) | ((with_reducible refine gate_dst (N := 153) rfl ?_); (try (refine gate_guard (by rfl) ?_; dsimp only)); refine Kd.R_lit (Kd.int .i32) _ 21 ?hg (N := 153) ?hd (xs := ([wrap32 (t191)] : List Int)) (inner := [.int .i32 (wrap32 (t191))]) (ok := fun _ => True) (okp := fun _ => True) ?hr ?hp (fun _ hk => hk) trivial (Below.refl _ _) (Nat.le_refl _) (by simp) ?_; (case hd => rfl); (case hg => rfl); (case hr => first | (go_simp; done) | (go_simp; rfl)); (case hp => exact (Reps.one (show Kd.M (Kd.int .i32) _ _ _ (wrap32 (t191)) [.int .i32 (wrap32 (t191))] from rfl) (Reps.none _ _))); intro v199 w102 ho103 hb hg_ hnew_; clear hg_ hnew_; (first | rw [← Ny198.out] at ho103 | (simp only [Int.reduceToNat] at ho103; rw [← Ny198.out] at ho103)); have n0_ := Aside0.mk (Kd.R_lower ho103 (below_size (by repeat (first | (with_reducible first | exact HB.out | apply below_alloc | apply pw_below_drewN | apply below_drew1) | exact HB.out)))); have n1_ := Aside0.mk (below_step (by repeat (first | (with_reducible first | exact HB.out | apply below_alloc | apply pw_below_drewN | apply below_drew1) | exact HB.out)) hb); clear HB; have HO200 := n0_; have HB := n1_; clear n0_ n1_; clear hb ho103; obtain ⟨Ao104, co104, eo104⟩ := Kd.R_slice HO200.out; subst eo104) | ((with_reducible refine gate_callee (f := 11) rfl ?_); refine goesL_ (some 154) rfl rfl Tryd.func11 (by kernel_rfl) rfl #[.slice Ao104 y198.length co104] rfl (by (try simp only [List.map_toArray, List.map_cons, List.map_nil]); first | done | rfl | (simp only [List.length_drop, List.length_take]; rfl)) ?_; (with_reducible refine (clerestoryref1_CharsEncode.calls kj82 _ _ y198 t201 _ ?side1 ?side2 A101.out).mono ?_); (case side1 => repeat (first | exact (Kd.R_reads' HO200.out).2.2 | (with_reducible refine Kd.C_alloc ?_ _) | (with_reducible refine Kd.C_drewN ?_ _) | (with_reducible refine Kd.C_drew ?_))); (case side2 => exact (Kd.R_reads' HO200.out).2.1); rintro e w105 ⟨rfl, hb⟩; refine ⟨_, rfl, ?_⟩; have n0_ := Aside0.mk (Kd.R_below (by (with_reducible repeat (first | apply Kd.R_alloc | apply Kd.R_drewN | apply Kd.R_drew)); exact HO200.out) hb); have n1_ := Aside0.mk (below_step (by repeat (first | (with_reducible first | exact HB.out | apply below_alloc | apply pw_below_drewN | apply below_drew1) | exact HB.out)) hb); clear HO200; clear HB; have HO200 := n0_; have HB := n1_; clear n0_ n1_; (try clear hb); (try clear hb2); (try clear hk); (try clear hi)))
                                                  go_ret2
                                                  exact ⟨by first | rfl | (simp [errW_none, errW_some] <;> rfl) | (simp only [← hji74]; first | rfl | (simp [errW_none, errW_some] <;> rfl)) | (simp [*, errW_none, errW_some] <;> rfl), by repeat (first | (with_reducible first | exact HB.out | apply below_alloc | apply pw_below_drewN | apply below_drew1) | exact HB.out)⟩
                                            · rw [if_neg c95] at H
                                              exact absurd H (by simp)
                                          · rw [if_neg c94] at H
                                            have c94b0 : decide (x10_2 < (a0.size : Int)) = false := decide_eq_false c94
                                            clear c94
                                            obtain ⟨y202, hy202⟩ : ∃ y_ : List Int, y_ = (([wrap32 (t191)] : List Int)) := ⟨_, rfl⟩
                                            replace H : ((clerestoryref1_CharsEncode.f kj82 y202).bind fun t205 => (some (t205, x10_2))) = some (r1, r2) := by first | (rw [hy202]; with_reducible exact H) | (have H2_ := (Option.bind_some _ _).symm.trans H; rw [hy202]; with_reducible exact H2_) | (have H2_ := (Option.bind_some _ _).symm.trans H; with_reducible exact H2_) | with_reducible exact H | (rw [hy202]; exact H) | exact H
                                            have Ny202 := Aside0.mk hy202
                                            clear hy202
                                            replace H := Option.bind_eq_some_iff.mp H
                                            obtain ⟨t205, A1060, H⟩ := H
                                            replace H : (some (t205, x10_2)) = some (r1, r2) := H
                                            have A106 := Aside0.mk A1060
                                            clear A1060
                                            simp only [Option.some.injEq, Prod.mk.injEq] at H
                                            obtain ⟨rfl, rfl⟩ := H
                                            go_wp2_with (first | ((with_reducible refine gate_dst (N := 153) rfl ?_); (try (refine gate_guard (by rfl) ?_; dsimp only)); refine Kd.R_lit (Kd.int .i32) _ 21 ?hg (N := 153) ?hd (xs := ([wrap32 (t191)] : List Int)) (inner := [.int .i32 (wrap32 (t191))]) (ok := fun _ => True) (okp := fun _ => True) ?hr ?hp (fun _ hk => hk) trivial (Below.refl _ _) (Nat.le_refl _) (by simp) ?_; (case hd => rfl); (case hg => rfl); (case hr => first | (go_simp; done) | (go_simp; rfl)); (case hp => exact (Reps.one (show Kd.M (Kd.int .i32) _ _ _ (wrap32 (t191)) [.int .i32 (wrap32 (t191))] from rfl) (Reps.none _ _))); intro v203 w107 ho108 hb hg_ hnew_; clear hg_ hnew_; (first | rw [← Ny202.out] at ho108 | (simp only [Int.reduceToNat] at ho108; rw [← Ny202.out] at ho108)); have n0_ := Aside0.mk (Kd.R_lower ho108 (below_size (by repeat (first | (with_reducible first | exact HB.out | apply below_alloc | apply pw_below_drewN | apply below_drew1) | exact HB.out)))); have n1_ := Aside0.mk (below_step (by repeat (first | (with_reducible first | exact HB.out | apply below_alloc | apply pw_below_drewN | apply below_drew1) | exact HB.out)) hb); clear HB; have HO204 := n0_; have HB := n1_; clear n0_ n1_; clear hb ho108; obtain ⟨Ao109, co109, eo109⟩ := Kd.R_slice HO204.out; subst eo109) | ((with_reducible refine gate_callee (f := 11) rfl ?_); refine goesL_ (some 154) rfl rfl Tryd.func11 (by kernel_rfl) rfl #[.slice Ao109 y202.length co109] rfl (by (try simp only [List.map_toArray, List.map_cons, List.map_nil]); first | done | rfl | (simp only [List.length_drop, List.length_take]; rfl)) ?_; (with_reducible refine (clerestoryref1_CharsEncode.calls kj82 _ _ y202 t205 _ ?side1 ?side2 A106.out).mono ?_); (case side1 => repeat (first | exact (Kd.R_reads' HO204.out).2.2 | (with_reducible refine Kd.C_alloc ?_ _) | (with_reducible refine Kd.C_drewN ?_ _) | (with_reducible refine Kd.C_drew ?_))); (case side2 => exact (Kd.R_reads' HO204.out).2.1); rintro e w110 ⟨rfl, hb⟩; refine ⟨_, rfl, ?_⟩; have n0_ := Aside0.mk (Kd.R_below (by (with_reducible repeat (first | apply Kd.R_alloc | apply Kd.R_drewN | apply Kd.R_drew)); exact HO204.out) hb); have n1_ := Aside0.mk (below_step (by repeat (first | (with_reducible first | exact HB.out | apply below_alloc | apply pw_below_drewN | apply below_drew1) | exact HB.out)) hb); clear HO204; clear HB; have HO204 := n0_; have HB := n1_; clear n0_ n1_; (try clear hb); (try clear hb2); (try clear hk); (try clear hi)))
                                            go_ret2
                                            exact ⟨by first | rfl | (simp [errW_none, errW_some] <;> rfl) | (simp only [← hji74]; first | rfl | (simp [errW_none, errW_some] <;> rfl)) | (simp [*, errW_none, errW_some] <;> rfl), by repeat (first | (with_reducible first | exact HB.out | apply below_alloc | apply pw_below_drewN | apply below_drew1) | exact HB.out)⟩
                                        · replace c93 := Bool.eq_false_iff.mpr c93
                                          subst c93
                                          have H1 : ((clerestoryref1_CharsEncode.f kj82 (([wrap32 (t191)] : List Int))).bind fun t209 => (some (t209, x10_2))) = some (r1, r2) := by rw [if_neg (show ¬ (false = true) by decide)] at H; exact H
                                          clear H
                                          have H := H1
                                          clear H1
                                          obtain ⟨y206, hy206⟩ : ∃ y_ : List Int, y_ = (([wrap32 (t191)] : List Int)) := ⟨_, rfl⟩
                                          replace H : ((clerestoryref1_CharsEncode.f kj82 y206).bind fun t209 => (some (t209, x10_2))) = some (r1, r2) := by first | (rw [hy206]; with_reducible exact H) | (have H2_ := (Option.bind_some _ _).symm.trans H; rw [hy206]; with_reducible exact H2_) | (have H2_ := (Option.bind_some _ _).symm.trans H; with_reducible exact H2_) | with_reducible exact H | (rw [hy206]; exact H) | exact H
                                          have Ny206 := Aside0.mk hy206
                                          clear hy206
                                          replace H := Option.bind_eq_some_iff.mp H
                                          obtain ⟨t209, A1110, H⟩ := H
                                          replace H : (some (t209, x10_2)) = some (r1, r2) := H
                                          have A111 := Aside0.mk A1110
                                          clear A1110
                                          simp only [Option.some.injEq, Prod.mk.injEq] at H
                                          obtain ⟨rfl, rfl⟩ := H
                                          go_wp2_with (first | ((with_reducible refine gate_dst (N := 153) rfl ?_); (try (refine gate_guard (by rfl) ?_; dsimp only)); refine Kd.R_lit (Kd.int .i32) _ 21 ?hg (N := 153) ?hd (xs := ([wrap32 (t191)] : List Int)) (inner := [.int .i32 (wrap32 (t191))]) (ok := fun _ => True) (okp := fun _ => True) ?hr ?hp (fun _ hk => hk) trivial (Below.refl _ _) (Nat.le_refl _) (by simp) ?_; (case hd => rfl); (case hg => rfl); (case hr => first | (go_simp; done) | (go_simp; rfl)); (case hp => exact (Reps.one (show Kd.M (Kd.int .i32) _ _ _ (wrap32 (t191)) [.int .i32 (wrap32 (t191))] from rfl) (Reps.none _ _))); intro v207 w112 ho113 hb hg_ hnew_; clear hg_ hnew_; (first | rw [← Ny206.out] at ho113 | (simp only [Int.reduceToNat] at ho113; rw [← Ny206.out] at ho113)); have n0_ := Aside0.mk (Kd.R_lower ho113 (below_size (by repeat (first | (with_reducible first | exact HB.out | apply below_alloc | apply pw_below_drewN | apply below_drew1) | exact HB.out)))); have n1_ := Aside0.mk (below_step (by repeat (first | (with_reducible first | exact HB.out | apply below_alloc | apply pw_below_drewN | apply below_drew1) | exact HB.out)) hb); clear HB; have HO208 := n0_; have HB := n1_; clear n0_ n1_; clear hb ho113; obtain ⟨Ao114, co114, eo114⟩ := Kd.R_slice HO208.out; subst eo114) | ((with_reducible refine gate_callee (f := 11) rfl ?_); refine goesL_ (some 154) rfl rfl Tryd.func11 (by kernel_rfl) rfl #[.slice Ao114 y206.length co114] rfl (by (try simp only [List.map_toArray, List.map_cons, List.map_nil]); first | done | rfl | (simp only [List.length_drop, List.length_take]; rfl)) ?_; (with_reducible refine (clerestoryref1_CharsEncode.calls kj82 _ _ y206 t209 _ ?side1 ?side2 A111.out).mono ?_); (case side1 => repeat (first | exact (Kd.R_reads' HO208.out).2.2 | (with_reducible refine Kd.C_alloc ?_ _) | (with_reducible refine Kd.C_drewN ?_ _) | (with_reducible refine Kd.C_drew ?_))); (case side2 => exact (Kd.R_reads' HO208.out).2.1); rintro e w115 ⟨rfl, hb⟩; refine ⟨_, rfl, ?_⟩; have n0_ := Aside0.mk (Kd.R_below (by (with_reducible repeat (first | apply Kd.R_alloc | apply Kd.R_drewN | apply Kd.R_drew)); exact HO208.out) hb); have n1_ := Aside0.mk (below_step (by repeat (first | (with_reducible first | exact HB.out | apply below_alloc | apply pw_below_drewN | apply below_drew1) | exact HB.out)) hb); clear HO208; clear HB; have HO208 := n0_; have HB := n1_; clear n0_ n1_; (try clear hb); (try clear hb2); (try clear hk); (try clear hi)))
                                          go_ret2
                                          exact ⟨by first | rfl | (simp [errW_none, errW_some] <;> rfl) | (simp only [← hji74]; first | rfl | (simp [errW_none, errW_some] <;> rfl)) | (simp [*, errW_none, errW_some] <;> rfl), by repeat (first | (with_reducible first | exact HB.out | apply below_alloc | apply pw_below_drewN | apply below_drew1) | exact HB.out)⟩
                          · rw [if_neg c76] at H
                            exact absurd H (by simp)
                        · rw [if_neg c75] at H
                          exact absurd H (by simp)
                      · rw [if_neg c73] at H
                        exact absurd H (by simp)
                    · rw [if_neg c72] at H
                      exact absurd H (by simp)
                · rw [if_neg c70] at H
                  have c70b0 : decide (2 ≤ x10_2) = false := decide_eq_false c70
                  clear c70
                  simp only [Option.some.injEq, Prod.mk.injEq] at H
                  obtain ⟨rfl, rfl⟩ := H
                  go_wp2
                  go_ret2
                  exact ⟨by first | rfl | (simp [errW_none, errW_some] <;> rfl) | (simp [*, errW_none, errW_some] <;> rfl), by repeat (first | (with_reducible first | exact HB.out | apply below_alloc | apply pw_below_drewN | apply below_drew1) | exact HB.out)⟩
        · rw [if_neg c8] at H
          exact absurd H (by simp)

end Go.Proofs.YtjlgbakdnenjhaaDoor.XEn
