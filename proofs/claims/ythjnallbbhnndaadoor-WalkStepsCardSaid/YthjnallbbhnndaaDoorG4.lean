/- Written by this session's program (wip/xp) out of the translation as Lean prints it: for each Go function a Lean function and the proof that the code answers just so, on the conditions named in each statement. -/
import Derived.Test.YthjnallbbhnndaaDoorG3
import Derived.Lib.SlTrimSet
import Derived.ProofKit
import Derived.SizedLaws
import Derived.Deep.Slices
namespace Go.Proofs.YthjnallbbhnndaaDoor.XWk
open Go.Proofs.YthjnallbbhnndaaDoor.Short Go.RowKit Go.Proofs.YthjnallbbhnndaaDoorW.PrintWords Go.Proofs.YthjnallbbhnndaaDoorW.PrintLast Go.Proofs.YthjnallbbhnndaaDoorW.PrintMore
attribute [local go_sem] q27 q25 q2l q2k q1w q1v q26 q24   -- for this text's walks alone
set_option linter.unusedVariables false
set_option linter.unusedSimpArgs false
mutual
def q03.l0 : Nat → Int → Int → List (S43) → Bool → Option (Int)
 | 0, _, _, _, _ => none
 | k + 1, x3, x4, x213000, x213001 => if x4 < x3 then (if x4 = 0 then (if 0 ≤ x4 then (if x4 < (x213000.length : Int) then (if ((q05 x213000 x4).f0) = 1 then (if x4 > 0 then (q03.j1 k x3 x4 (((q05 x213000 x4).f0) == 1) x213000 x213001) else (q03.j1 k x3 x4 false x213000 x213001)) else (q03.j1 k x3 x4 true x213000 x213001)) else (none)) else (none)) else (if x4 > 0 then (if 0 ≤ x4 then (if x4 < (x213000.length : Int) then (q03.j1 k x3 x4 (((q05 x213000 x4).f0) == 1) x213000 x213001) else (none)) else (none)) else (q03.j1 k x3 x4 false x213000 x213001))) else (q03.l1 k x3 0 x213000 x213001)
def q03.j1 : Nat → Int → Int → Bool → List (S43) → Bool → Option (Int)
 | 0, _, _, _, _, _ => none
 | k + 1, x3, x4, x48, x213000, x213001 => if x48 = true then (some 3) else (if 0 ≤ x4 then (if x4 < (x213000.length : Int) then ((q00.f k ((q05 x213000 x4).f0) ((q05 x213000 x4).f1) ((q05 x213000 x4).f2) ((q05 x213000 x4).f3) ((q05 x213000 x4).f4) ((q05 x213000 x4).f5)).bind fun t217 => (if t217 = 0 then (q03.l0 k x3 (wrap64 (x4 + 1)) x213000 x213001) else (some t217))) else (none)) else (none))
def q03.l1 : Nat → Int → Int → List (S43) → Bool → Option (Int)
 | 0, _, _, _, _ => none
 | k + 1, x3, x6, x213000, x213001 => if x6 < x3 then (q03.l2 k x3 x6 0 x213000 x213001) else (q03.l3 k x3 0 x213000 x213001)
def q03.l2 : Nat → Int → Int → Int → List (S43) → Bool → Option (Int)
 | 0, _, _, _, _, _ => none
 | k + 1, x3, x6, x7, x213000, x213001 => if 0 ≤ x6 then (if x6 < (x213000.length : Int) then (if x7 < (((q05 x213000 x6).f5).length : Int) then (if 0 ≤ x7 then ((q0p.f (rd ((q05 x213000 x6).f5) x7) 0 (wrap64 (x3 - 1))).bind fun t221 => (if t221 = true then (if 0 ≤ (rd ((q05 x213000 x6).f5) x7) then (if (rd ((q05 x213000 x6).f5) x7) < (x213000.length : Int) then (if ((q05 x213000 (rd ((q05 x213000 x6).f5) x7)).f4) = x6 then (if x7 ≤ (((q05 x213000 x6).f5).length : Int) then ((q08.f k (((q05 x213000 x6).f5).take (x7 : Int).toNat) (rd ((q05 x213000 x6).f5) x7)).bind fun t225 => (q03.j4 k x3 x6 x7 (rd ((q05 x213000 x6).f5) x7) (decide (t225 ≥ 0)) x213000 x213001)) else (none)) else (q03.j4 k x3 x6 x7 (rd ((q05 x213000 x6).f5) x7) true x213000 x213001)) else (none)) else (none)) else (q03.j4 k x3 x6 x7 (rd ((q05 x213000 x6).f5) x7) true x213000 x213001))) else (none)) else (q03.l1 k x3 (wrap64 (x6 + 1)) x213000 x213001)) else (none)) else (none)
def q03.j4 : Nat → Int → Int → Int → Int → Bool → List (S43) → Bool → Option (Int)
 | 0, _, _, _, _, _, _, _ => none
 | k + 1, x3, x6, x7, x8, x110, x213000, x213001 => if x110 = true then (some 3) else (if x6 = 0 then (if 0 ≤ x8 then (if x8 < (x213000.length : Int) then (if ((q05 x213000 x8).f0) = 3 then (some 7) else (q03.l2 k x3 x6 (wrap64 (x7 + 1)) x213000 x213001)) else (none)) else (none)) else (q03.l2 k x3 x6 (wrap64 (x7 + 1)) x213000 x213001))
def q03.l3 : Nat → Int → Int → List (S43) → Bool → Option (Int)
 | 0, _, _, _, _ => none
 | k + 1, x3, x9, x213000, x213001 => if x9 < x3 then (if 0 ≤ x9 then (if x9 < (x213000.length : Int) then (if ((q05 x213000 x9).f4) = (-1) then (q03.l3 k x3 (wrap64 (x9 + 1)) x213000 x213001) else ((q0p.f ((q05 x213000 x9).f4) 0 (wrap64 (x3 - 1))).bind fun t228 => (if t228 = true then (if 0 ≤ ((q05 x213000 x9).f4) then (if ((q05 x213000 x9).f4) < (x213000.length : Int) then ((q08.f k ((q05 x213000 ((q05 x213000 x9).f4)).f5) x9).bind fun t230 => (if t230 < 0 then (some 3) else (q03.l3 k x3 (wrap64 (x9 + 1)) x213000 x213001))) else (none)) else (none)) else (some 3)))) else (none)) else (none)) else (if 0 < (x213000.length : Int) then (if ((q05 x213000 0).f4) = (-1) then (q03.l4 k x3 0 x213000 x213001) else (some 3)) else (none))
def q03.l4 : Nat → Int → Int → List (S43) → Bool → Option (Int)
 | 0, _, _, _, _ => none
 | k + 1, x3, x11, x213000, x213001 => if x11 < x3 then ((q0i.f k x213000 x213001 x11).bind fun t232 => (if t232 < 0 then (some 8) else (if t232 > 40 then (some 2) else (q03.l4 k x3 (wrap64 (x11 + 1)) x213000 x213001)))) else (some 0)
end
def q03.f (k : Nat) (l0_0 : List (S43)) (a0_1 : Bool) : Option (Int) := if (l0_0.length : Int) > 200 then (some 2) else (if (l0_0.length : Int) = 0 then (some 3) else (q03.l0 k (l0_0.length : Int) 0 l0_0 a0_1))
theorem q03.mono_l : ∀ k, (∀ y0 y1 y2 y3, LeO (q03.l0 k y0 y1 y2 y3) (q03.l0 (k + 1) y0 y1 y2 y3)) ∧ (∀ y0 y1 y2 y3 y4, LeO (q03.j1 k y0 y1 y2 y3 y4) (q03.j1 (k + 1) y0 y1 y2 y3 y4)) ∧ (∀ y0 y1 y2 y3, LeO (q03.l1 k y0 y1 y2 y3) (q03.l1 (k + 1) y0 y1 y2 y3)) ∧ (∀ y0 y1 y2 y3 y4, LeO (q03.l2 k y0 y1 y2 y3 y4) (q03.l2 (k + 1) y0 y1 y2 y3 y4)) ∧ (∀ y0 y1 y2 y3 y4 y5 y6, LeO (q03.j4 k y0 y1 y2 y3 y4 y5 y6) (q03.j4 (k + 1) y0 y1 y2 y3 y4 y5 y6)) ∧ (∀ y0 y1 y2 y3, LeO (q03.l3 k y0 y1 y2 y3) (q03.l3 (k + 1) y0 y1 y2 y3)) ∧ (∀ y0 y1 y2 y3, LeO (q03.l4 k y0 y1 y2 y3) (q03.l4 (k + 1) y0 y1 y2 y3))
 | 0 => ⟨fun _ _ _ _ r h => by simp [q03.l0] at h, fun _ _ _ _ _ r h => by simp [q03.j1] at h, fun _ _ _ _ r h => by simp [q03.l1] at h, fun _ _ _ _ _ r h => by simp [q03.l2] at h, fun _ _ _ _ _ _ _ r h => by simp [q03.j4] at h, fun _ _ _ _ r h => by simp [q03.l3] at h, fun _ _ _ _ r h => by simp [q03.l4] at h⟩
 | k + 1 => by
  obtain ⟨ih0, ih1, ih2, ih3, ih4, ih5, ih6⟩ := q03.mono_l k
  refine ⟨?_, ?_, ?_, ?_, ?_, ?_, ?_⟩
  ·intro y0 y1 y2 y3
   unfold q03.l0
   repeat' first
   | (with_reducible exact ih0 _ _ _ _)
   | (with_reducible exact ih1 _ _ _ _ _)
   | (with_reducible exact ih2 _ _ _ _)
   | (with_reducible exact ih3 _ _ _ _ _)
   | (with_reducible exact ih4 _ _ _ _ _ _ _)
   | (with_reducible exact ih5 _ _ _ _)
   | (with_reducible exact ih6 _ _ _ _)
   | (with_reducible exact q0i.mono _ _ _ _)
   | (with_reducible exact q00.mono _ _ _ _ _ _ _)
   | (with_reducible exact q08.mono _ _ _)
   | (with_reducible exact LeO.refl _)
   | (with_reducible exact LeO.none _)
   | (with_reducible refine LeO.ite ?_ ?_)
   | (with_reducible refine LeO.bind ?_ (fun _ => ?_))
   | exact ih0 _ _ _ _
   | exact ih1 _ _ _ _ _
   | exact ih2 _ _ _ _
   | exact ih3 _ _ _ _ _
   | exact ih4 _ _ _ _ _ _ _
   | exact ih5 _ _ _ _
   | exact ih6 _ _ _ _
   | exact q0i.mono _ _ _ _
   | exact q00.mono _ _ _ _ _ _ _
   | exact q08.mono _ _ _
   | exact LeO.none _
   | refine LeO.ite ?_ ?_
   | refine LeO.bind ?_ (fun _ => ?_)
  ·intro y0 y1 y2 y3 y4
   unfold q03.j1
   repeat' first
   | (with_reducible exact ih0 _ _ _ _)
   | (with_reducible exact ih1 _ _ _ _ _)
   | (with_reducible exact ih2 _ _ _ _)
   | (with_reducible exact ih3 _ _ _ _ _)
   | (with_reducible exact ih4 _ _ _ _ _ _ _)
   | (with_reducible exact ih5 _ _ _ _)
   | (with_reducible exact ih6 _ _ _ _)
   | (with_reducible exact q0i.mono _ _ _ _)
   | (with_reducible exact q00.mono _ _ _ _ _ _ _)
   | (with_reducible exact q08.mono _ _ _)
   | (with_reducible exact LeO.refl _)
   | (with_reducible exact LeO.none _)
   | (with_reducible refine LeO.ite ?_ ?_)
   | (with_reducible refine LeO.bind ?_ (fun _ => ?_))
   | exact ih0 _ _ _ _
   | exact ih1 _ _ _ _ _
   | exact ih2 _ _ _ _
   | exact ih3 _ _ _ _ _
   | exact ih4 _ _ _ _ _ _ _
   | exact ih5 _ _ _ _
   | exact ih6 _ _ _ _
   | exact q0i.mono _ _ _ _
   | exact q00.mono _ _ _ _ _ _ _
   | exact q08.mono _ _ _
   | exact LeO.none _
   | refine LeO.ite ?_ ?_
   | refine LeO.bind ?_ (fun _ => ?_)
  ·intro y0 y1 y2 y3
   unfold q03.l1
   repeat' first
   | (with_reducible exact ih0 _ _ _ _)
   | (with_reducible exact ih1 _ _ _ _ _)
   | (with_reducible exact ih2 _ _ _ _)
   | (with_reducible exact ih3 _ _ _ _ _)
   | (with_reducible exact ih4 _ _ _ _ _ _ _)
   | (with_reducible exact ih5 _ _ _ _)
   | (with_reducible exact ih6 _ _ _ _)
   | (with_reducible exact q0i.mono _ _ _ _)
   | (with_reducible exact q00.mono _ _ _ _ _ _ _)
   | (with_reducible exact q08.mono _ _ _)
   | (with_reducible exact LeO.refl _)
   | (with_reducible exact LeO.none _)
   | (with_reducible refine LeO.ite ?_ ?_)
   | (with_reducible refine LeO.bind ?_ (fun _ => ?_))
   | exact ih0 _ _ _ _
   | exact ih1 _ _ _ _ _
   | exact ih2 _ _ _ _
   | exact ih3 _ _ _ _ _
   | exact ih4 _ _ _ _ _ _ _
   | exact ih5 _ _ _ _
   | exact ih6 _ _ _ _
   | exact q0i.mono _ _ _ _
   | exact q00.mono _ _ _ _ _ _ _
   | exact q08.mono _ _ _
   | exact LeO.none _
   | refine LeO.ite ?_ ?_
   | refine LeO.bind ?_ (fun _ => ?_)
  ·intro y0 y1 y2 y3 y4
   unfold q03.l2
   repeat' first
   | (with_reducible exact ih0 _ _ _ _)
   | (with_reducible exact ih1 _ _ _ _ _)
   | (with_reducible exact ih2 _ _ _ _)
   | (with_reducible exact ih3 _ _ _ _ _)
   | (with_reducible exact ih4 _ _ _ _ _ _ _)
   | (with_reducible exact ih5 _ _ _ _)
   | (with_reducible exact ih6 _ _ _ _)
   | (with_reducible exact q0i.mono _ _ _ _)
   | (with_reducible exact q00.mono _ _ _ _ _ _ _)
   | (with_reducible exact q08.mono _ _ _)
   | (with_reducible exact LeO.refl _)
   | (with_reducible exact LeO.none _)
   | (with_reducible refine LeO.ite ?_ ?_)
   | (with_reducible refine LeO.bind ?_ (fun _ => ?_))
   | exact ih0 _ _ _ _
   | exact ih1 _ _ _ _ _
   | exact ih2 _ _ _ _
   | exact ih3 _ _ _ _ _
   | exact ih4 _ _ _ _ _ _ _
   | exact ih5 _ _ _ _
   | exact ih6 _ _ _ _
   | exact q0i.mono _ _ _ _
   | exact q00.mono _ _ _ _ _ _ _
   | exact q08.mono _ _ _
   | exact LeO.none _
   | refine LeO.ite ?_ ?_
   | refine LeO.bind ?_ (fun _ => ?_)
  ·intro y0 y1 y2 y3 y4 y5 y6
   unfold q03.j4
   repeat' first
   | (with_reducible exact ih0 _ _ _ _)
   | (with_reducible exact ih1 _ _ _ _ _)
   | (with_reducible exact ih2 _ _ _ _)
   | (with_reducible exact ih3 _ _ _ _ _)
   | (with_reducible exact ih4 _ _ _ _ _ _ _)
   | (with_reducible exact ih5 _ _ _ _)
   | (with_reducible exact ih6 _ _ _ _)
   | (with_reducible exact q0i.mono _ _ _ _)
   | (with_reducible exact q00.mono _ _ _ _ _ _ _)
   | (with_reducible exact q08.mono _ _ _)
   | (with_reducible exact LeO.refl _)
   | (with_reducible exact LeO.none _)
   | (with_reducible refine LeO.ite ?_ ?_)
   | (with_reducible refine LeO.bind ?_ (fun _ => ?_))
   | exact ih0 _ _ _ _
   | exact ih1 _ _ _ _ _
   | exact ih2 _ _ _ _
   | exact ih3 _ _ _ _ _
   | exact ih4 _ _ _ _ _ _ _
   | exact ih5 _ _ _ _
   | exact ih6 _ _ _ _
   | exact q0i.mono _ _ _ _
   | exact q00.mono _ _ _ _ _ _ _
   | exact q08.mono _ _ _
   | exact LeO.none _
   | refine LeO.ite ?_ ?_
   | refine LeO.bind ?_ (fun _ => ?_)
  ·intro y0 y1 y2 y3
   unfold q03.l3
   repeat' first
   | (with_reducible exact ih0 _ _ _ _)
   | (with_reducible exact ih1 _ _ _ _ _)
   | (with_reducible exact ih2 _ _ _ _)
   | (with_reducible exact ih3 _ _ _ _ _)
   | (with_reducible exact ih4 _ _ _ _ _ _ _)
   | (with_reducible exact ih5 _ _ _ _)
   | (with_reducible exact ih6 _ _ _ _)
   | (with_reducible exact q0i.mono _ _ _ _)
   | (with_reducible exact q00.mono _ _ _ _ _ _ _)
   | (with_reducible exact q08.mono _ _ _)
   | (with_reducible exact LeO.refl _)
   | (with_reducible exact LeO.none _)
   | (with_reducible refine LeO.ite ?_ ?_)
   | (with_reducible refine LeO.bind ?_ (fun _ => ?_))
   | exact ih0 _ _ _ _
   | exact ih1 _ _ _ _ _
   | exact ih2 _ _ _ _
   | exact ih3 _ _ _ _ _
   | exact ih4 _ _ _ _ _ _ _
   | exact ih5 _ _ _ _
   | exact ih6 _ _ _ _
   | exact q0i.mono _ _ _ _
   | exact q00.mono _ _ _ _ _ _ _
   | exact q08.mono _ _ _
   | exact LeO.none _
   | refine LeO.ite ?_ ?_
   | refine LeO.bind ?_ (fun _ => ?_)
  ·intro y0 y1 y2 y3
   unfold q03.l4
   repeat' first
   | (with_reducible exact ih0 _ _ _ _)
   | (with_reducible exact ih1 _ _ _ _ _)
   | (with_reducible exact ih2 _ _ _ _)
   | (with_reducible exact ih3 _ _ _ _ _)
   | (with_reducible exact ih4 _ _ _ _ _ _ _)
   | (with_reducible exact ih5 _ _ _ _)
   | (with_reducible exact ih6 _ _ _ _)
   | (with_reducible exact q0i.mono _ _ _ _)
   | (with_reducible exact q00.mono _ _ _ _ _ _ _)
   | (with_reducible exact q08.mono _ _ _)
   | (with_reducible exact LeO.refl _)
   | (with_reducible exact LeO.none _)
   | (with_reducible refine LeO.ite ?_ ?_)
   | (with_reducible refine LeO.bind ?_ (fun _ => ?_))
   | exact ih0 _ _ _ _
   | exact ih1 _ _ _ _ _
   | exact ih2 _ _ _ _
   | exact ih3 _ _ _ _ _
   | exact ih4 _ _ _ _ _ _ _
   | exact ih5 _ _ _ _
   | exact ih6 _ _ _ _
   | exact q0i.mono _ _ _ _
   | exact q00.mono _ _ _ _ _ _ _
   | exact q08.mono _ _ _
   | exact LeO.none _
   | refine LeO.ite ?_ ?_
   | refine LeO.bind ?_ (fun _ => ?_)
theorem q03.mono : ∀ a0 a1 k, LeO (q03.f k a0 a1) (q03.f (k + 1) a0 a1) := by
 intro a0 a1 k
 obtain ⟨ih0, ih1, ih2, ih3, ih4, ih5, ih6⟩ := q03.mono_l k
 unfold q03.f
 repeat' first
  | (with_reducible exact ih0 _ _ _ _)
  | (with_reducible exact ih1 _ _ _ _ _)
  | (with_reducible exact ih2 _ _ _ _)
  | (with_reducible exact ih3 _ _ _ _ _)
  | (with_reducible exact ih4 _ _ _ _ _ _ _)
  | (with_reducible exact ih5 _ _ _ _)
  | (with_reducible exact ih6 _ _ _ _)
  | (with_reducible exact q0i.mono _ _ _ _)
  | (with_reducible exact q00.mono _ _ _ _ _ _ _)
  | (with_reducible exact q08.mono _ _ _)
  | (with_reducible exact LeO.refl _)
  | (with_reducible exact LeO.none _)
  | (with_reducible refine LeO.ite ?_ ?_)
  | (with_reducible refine LeO.bind ?_ (fun _ => ?_))
  | exact ih0 _ _ _ _
  | exact ih1 _ _ _ _ _
  | exact ih2 _ _ _ _
  | exact ih3 _ _ _ _ _
  | exact ih4 _ _ _ _ _ _ _
  | exact ih5 _ _ _ _
  | exact ih6 _ _ _ _
  | exact q0i.mono _ _ _ _
  | exact q00.mono _ _ _ _ _ _ _
  | exact q08.mono _ _ _
  | exact LeO.none _
  | refine LeO.ite ?_ ?_
  | refine LeO.bind ?_ (fun _ => ?_)
set_option maxHeartbeats 8000000 in
set_option maxRecDepth 100000 in
theorem q03.calls (k : Nat) (A0_0 : Option Addr) (c0_0 : Nat) (l0_0 : List (S43)) (a0_1 : Bool) (r : Int) (w : World) (hr0_0 : Kd.C k43 w A0_0 l0_0.length l0_0) (hc0_0 : l0_0.length ≤ c0_0) (h : q03.f k l0_0 a0_1 = some r) :
 Calls Tryd.prog 17 #[.agg #[.slice A0_0 l0_0.length c0_0, .bool a0_1]] w fun e w' => e = .returned (.int .i64 r) ∧ Below w.heap.size w w' := by
 have hu24 := Tryd.underlying24
 have hu43 := Tryd.underlying43
 have HR0_0 := aS hr0_0
 have HC0_0 := aS hc0_0
 clear hr0_0 hc0_0
 have HB := aS (Below.refl w.heap.size w)
 have H : (if (l0_0.length : Int) > 200 then (some 2) else (if (l0_0.length : Int) = 0 then (some 3) else (q03.l0 k (l0_0.length : Int) 0 l0_0 a0_1))) = some r := h
 clear h
 by_cases c2 : (l0_0.length : Int) > 200
 ·rw [if_pos c2] at H
  have c2b0 : decide (200 < (l0_0.length : Int)) = true := decide_eq_true c2
  have c2b1 : decide (200 < l0_0.length) = true := decide_eq_true (by omega)
  clear c2
  obtain rfl := Option.some.inj H
  go_enter Tryd.func17, Tryd.ntmps17
  go_wp2_with (first | ((with_reducible refine q15 (N := 1) rfl ?_); refine q0y ?hg (N := 1) ?hd (cs := #[.slice A0_0 l0_0.length c0_0, .bool a0_1]) (t := 24) ?hr ?_; (case hd => rfl); (case hg => rfl); (case hr => first | (go_simp; done) | (go_simp; rfl)); intro gb212 hg w3 hbox hb; have n0_ := aS (q09 (by repeat (first | (with_reducible first | exact HB.out | apply bA | apply bN | apply bD) | exact HB.out)) hb); have n1_ := aS (hbox); have n2_ := aS ((by rw [hg]; exact (q0k (by repeat (first | (with_reducible first | exact HB.out | apply bA | apply bN | apply bD) | exact HB.out))) : w.heap.size ≤ gb212)); have n3_ := aS ((by rw [hg]; exact (q0k (by repeat (first | (with_reducible first | exact HB.out | apply bA | apply bN | apply bD) | exact HB.out))) : w.heap.size ≤ gb212)); clear HB; have HB := n0_; have BK212 := n1_; have GW212 := n2_; have GE212 := n3_; clear n0_ n1_ n2_ n3_; clear hb hbox hg; have hcz4_0 : w3.cell? ⟨gb212, 0, none⟩ = some (.slice A0_0 l0_0.length c0_0) := (q02 BK212.out 0).trans rfl; have hcz4_1 : w3.cell? ⟨gb212, 1, none⟩ = some (.bool a0_1) := (q02 BK212.out 1).trans rfl; have hfz4_0 := q01 BK212.out 0; have hfz4_1 := q01 BK212.out 1))
  go_ret
  exact ⟨by first | rfl | (simp [q0b, q0a] <;> rfl) | (simp [*, q0b, q0a] <;> rfl), by repeat (first | (with_reducible first | exact HB.out | apply bA | apply bN | apply bD | refine bS ?_ GE212.out) | exact HB.out)⟩
 ·rw [if_neg c2] at H
  have c2b0 : decide (200 < (l0_0.length : Int)) = false := decide_eq_false c2
  have c2b1 : decide (200 < l0_0.length) = false := decide_eq_false (by omega)
  clear c2
  by_cases c5 : (l0_0.length : Int) = 0
  ·rw [if_pos c5] at H
   have c5b0 : ((l0_0.length : Int) == 0) = true := beq_iff_eq.mpr c5
   have c5b1 : ((l0_0.length : Int) != 0) = false := bne_eq_false_iff_eq.mpr c5
   clear c5
   obtain rfl := Option.some.inj H
   go_enter Tryd.func17, Tryd.ntmps17
   go_wp2_with (first | ((with_reducible refine q15 (N := 1) rfl ?_); refine q0y ?hg (N := 1) ?hd (cs := #[.slice A0_0 l0_0.length c0_0, .bool a0_1]) (t := 24) ?hr ?_; (case hd => rfl); (case hg => rfl); (case hr => first | (go_simp; done) | (go_simp; rfl)); intro gb212 hg w6 hbox hb; have n0_ := aS (q09 (by repeat (first | (with_reducible first | exact HB.out | apply bA | apply bN | apply bD) | exact HB.out)) hb); have n1_ := aS (hbox); have n2_ := aS ((by rw [hg]; exact (q0k (by repeat (first | (with_reducible first | exact HB.out | apply bA | apply bN | apply bD) | exact HB.out))) : w.heap.size ≤ gb212)); have n3_ := aS ((by rw [hg]; exact (q0k (by repeat (first | (with_reducible first | exact HB.out | apply bA | apply bN | apply bD) | exact HB.out))) : w.heap.size ≤ gb212)); clear HB; have HB := n0_; have BK212 := n1_; have GW212 := n2_; have GE212 := n3_; clear n0_ n1_ n2_ n3_; clear hb hbox hg; have hcz7_0 : w6.cell? ⟨gb212, 0, none⟩ = some (.slice A0_0 l0_0.length c0_0) := (q02 BK212.out 0).trans rfl; have hcz7_1 : w6.cell? ⟨gb212, 1, none⟩ = some (.bool a0_1) := (q02 BK212.out 1).trans rfl; have hfz7_0 := q01 BK212.out 0; have hfz7_1 := q01 BK212.out 1))
   go_ret
   exact ⟨by first | rfl | (simp [q0b, q0a] <;> rfl) | (simp [*, q0b, q0a] <;> rfl), by repeat (first | (with_reducible first | exact HB.out | apply bA | apply bN | apply bD | refine bS ?_ GE212.out) | exact HB.out)⟩
  ·rw [if_neg c5] at H
   have c5b0 : ((l0_0.length : Int) == 0) = false := beq_eq_false_iff_ne.mpr c5
   have c5b1 : ((l0_0.length : Int) != 0) = true := bne_iff_ne.mpr c5
   have c5b2 : ¬ (l0_0 = []) := fun h_ => c5 (by rw [h_]; rfl)
   have H' := aS H
   clear H
   go_enter Tryd.func17, Tryd.ntmps17
   go_wp2_with (first | ((with_reducible refine q15 (N := 1) rfl ?_); refine q0y ?hg (N := 1) ?hd (cs := #[.slice A0_0 l0_0.length c0_0, .bool a0_1]) (t := 24) ?hr ?_; (case hd => rfl); (case hg => rfl); (case hr => first | (go_simp; done) | (go_simp; rfl)); intro gb212 hg w8 hbox hb; have n0_ := aS (q09 (by repeat (first | (with_reducible first | exact HB.out | apply bA | apply bN | apply bD) | exact HB.out)) hb); have n1_ := aS (hbox); have n2_ := aS ((by rw [hg]; exact (q0k (by repeat (first | (with_reducible first | exact HB.out | apply bA | apply bN | apply bD) | exact HB.out))) : w.heap.size ≤ gb212)); have n3_ := aS ((by rw [hg]; exact (q0k (by repeat (first | (with_reducible first | exact HB.out | apply bA | apply bN | apply bD) | exact HB.out))) : w.heap.size ≤ gb212)); clear HB; have HB := n0_; have BK212 := n1_; have GW212 := n2_; have GE212 := n3_; clear n0_ n1_ n2_ n3_; clear hb hbox hg; have hcz9_0 : w8.cell? ⟨gb212, 0, none⟩ = some (.slice A0_0 l0_0.length c0_0) := (q02 BK212.out 0).trans rfl; have hcz9_1 : w8.cell? ⟨gb212, 1, none⟩ = some (.bool a0_1) := (q02 BK212.out 1).trans rfl; have hfz9_0 := q01 BK212.out 0; have hfz9_1 := q01 BK212.out 1))
   go_loopg [4] k (fun kq v4 w' => ∃ (x4_1 : Int), v4 = .int .i64 x4_1 ∧ Aside0 (q03.l0 kq (l0_0.length : Int) x4_1 l0_0 a0_1 = some r) ∧ Aside0 (kq ≤ k) ∧ Aside0 (w'.heap[gb212]? = some (.cells #[(.slice A0_0 l0_0.length c0_0), .bool a0_1] 24 (0, 0))) ∧ Aside0 (Below w.heap.size w w'))
   case atStart => exact ⟨(0), (by first | rfl | (simp; done) | simp [*]), H', ⟨Nat.le_refl _⟩, ⟨by (with_reducible repeat (first | refine kN ?_ _ | refine kD ?_ | refine kA ?_ _)); exact BK212.out⟩, ⟨by repeat (first | (with_reducible first | exact HB.out | apply bA | apply bN | apply bD | refine bS ?_ GE212.out) | exact HB.out)⟩⟩
   case round =>
    clear H'
    try clear c1
    try clear c2
    try clear c2b0
    try clear c2b1
    try clear p2
    try clear c5
    try clear c5b0
    try clear c5b1
    try clear c5b2
    try clear hcz4_0
    try clear hcz4_1
    try clear hcz7_0
    try clear hcz7_1
    try clear hcz9_0
    try clear hcz9_1
    try clear hfz4_0
    try clear hfz4_1
    try clear hfz7_0
    try clear hfz7_1
    try clear hfz9_0
    try clear hfz9_1
    obtain ⟨x4_1, rfl, HA, HK1, BK212, HB⟩ := hrel
    cases gk with
    | zero => exact absurd HA.out (by simp [q03.l0])
    | succ k1 =>
     have H := HA.out
     clear HA
     simp only [q03.l0] at H
     by_cases c10 : x4_1 < (l0_0.length : Int)
     ·rw [if_pos c10] at H
      have c10b0 : decide (x4_1 < (l0_0.length : Int)) = true := decide_eq_true c10
      clear c10
      have HC11 := aS H
      clear H
      go_upto_region 9 with (fail)
      go_cut [48] (fun v48 wc => ∃ (kq : Nat) (x48_10 : Bool), v48 = .bool x48_10 ∧ Aside0 (q03.j1 kq (l0_0.length : Int) x4_1 x48_10 l0_0 a0_1 = some r) ∧ Aside0 (kq ≤ k1) ∧ Aside0 (wc.heap[gb212]? = some (.cells #[(.slice A0_0 l0_0.length c0_0), .bool a0_1] 24 (0, 0))) ∧ Aside0 (Below w.heap.size w wc))
      case first =>
       have H := HC11.out
       clear HC11
       by_cases c12 : x4_1 = 0
       ·rw [if_pos c12] at H
        have c12b0 : (x4_1 == 0) = true := beq_iff_eq.mpr c12
        have c12b1 : (x4_1 != 0) = false := bne_eq_false_iff_eq.mpr c12
        clear c12
        (first | rw [c12b0] | (simp only [q1e, q1i]; rw [c12b0]) | skip)
        by_cases c13 : 0 ≤ x4_1
        ·rw [if_pos c13] at H
         have c13b0 : decide (0 ≤ x4_1) = true := decide_eq_true c13
         clear c13
         by_cases c14 : x4_1 < (l0_0.length : Int)
         ·rw [if_pos c14] at H
          have c14b0 : decide (x4_1 < (l0_0.length : Int)) = true := decide_eq_true c14
          clear c14
          by_cases c15 : ((q05 l0_0 x4_1).f0) = 1
          ·rw [if_pos c15] at H
           have c15b0 : (((q05 l0_0 x4_1).f0) == 1) = true := beq_iff_eq.mpr c15
           have c15b1 : (((q05 l0_0 x4_1).f0) != 1) = false := bne_eq_false_iff_eq.mpr c15
           clear c15
           by_cases c16 : x4_1 > 0
           ·rw [if_pos c16] at H
            have c16b0 : decide (0 < x4_1) = true := decide_eq_true c16
            clear c16
            have H' := aS H
            clear H
            have hcz17_0 : wr.cell? ⟨gb212, 0, none⟩ = some (.slice A0_0 l0_0.length c0_0) := (q02 BK212.out 0).trans rfl
            have hcz17_1 : wr.cell? ⟨gb212, 1, none⟩ = some (.bool a0_1) := (q02 BK212.out 1).trans rfl
            have hfz17_0 := q01 BK212.out 0
            have hfz17_1 := q01 BK212.out 1
            have p213 : 0 ≤ (x4_1 : Int) := od (by first | (with_reducible assumption) | assumption)
            have q213 : x4_1 < (l0_0.length : Int) := od (by first | (with_reducible assumption) | assumption)
            obtain ⟨ad213, A213_2, c213_2, A213_5, c213_5, e213, hx213_0, hx213_1, hx213_2, hx213_3, hx213_4, hx213_5, hl213_2, hi213_2, hl213_5, hi213_5⟩ := q1j HR0_0.out x4_1 p213 q213
            cases e213
            replace hx213_0 := (HB.out.cell (World.block_lt_of_cell? w _ hx213_0)).trans hx213_0
            replace hx213_1 := (HB.out.cell (World.block_lt_of_cell? w _ hx213_1)).trans hx213_1
            replace hx213_2 := (HB.out.cell (World.block_lt_of_cell? w _ hx213_2)).trans hx213_2
            replace hx213_3 := (HB.out.cell (World.block_lt_of_cell? w _ hx213_3)).trans hx213_3
            replace hx213_4 := (HB.out.cell (World.block_lt_of_cell? w _ hx213_4)).trans hx213_4
            replace hx213_5 := (HB.out.cell (World.block_lt_of_cell? w _ hx213_5)).trans hx213_5
            have HR213_2 := aS hi213_2
            have HC213_2 := aS hl213_2
            clear hi213_2 hl213_2
            have HR213_5 := aS hi213_5
            have HC213_5 := aS hl213_5
            clear hi213_5 hl213_5
            replace p213 := eq_true p213
            replace q213 := eq_true q213
            have p214 : 0 ≤ (x4_1 : Int) := od (by first | (with_reducible assumption) | assumption)
            have q214 : x4_1 < (l0_0.length : Int) := od (by first | (with_reducible assumption) | assumption)
            obtain ⟨ad214, A214_2, c214_2, A214_5, c214_5, e214, hx214_0, hx214_1, hx214_2, hx214_3, hx214_4, hx214_5, hl214_2, hi214_2, hl214_5, hi214_5⟩ := q1j HR0_0.out x4_1 p214 q214
            obtain rfl : ad213 = ad214 := (by injection e214)
            replace hx214_0 := (HB.out.cell (World.block_lt_of_cell? w _ hx214_0)).trans hx214_0
            replace hx214_1 := (HB.out.cell (World.block_lt_of_cell? w _ hx214_1)).trans hx214_1
            replace hx214_2 := (HB.out.cell (World.block_lt_of_cell? w _ hx214_2)).trans hx214_2
            replace hx214_3 := (HB.out.cell (World.block_lt_of_cell? w _ hx214_3)).trans hx214_3
            replace hx214_4 := (HB.out.cell (World.block_lt_of_cell? w _ hx214_4)).trans hx214_4
            replace hx214_5 := (HB.out.cell (World.block_lt_of_cell? w _ hx214_5)).trans hx214_5
            have HR214_2 := aS hi214_2
            have HC214_2 := aS hl214_2
            clear hi214_2 hl214_2
            have HR214_5 := aS hi214_5
            have HC214_5 := aS hl214_5
            clear hi214_5 hl214_5
            replace p214 := eq_true p214
            replace q214 := eq_true q214
            have ea_ := Option.some.inj (hx213_2.symm.trans hx214_2)
            injection ea_ with ea_ en_ ec_
            subst ea_
            subst ec_
            clear en_
            have ea_ := Option.some.inj (hx213_5.symm.trans hx214_5)
            injection ea_ with ea_ en_ ec_
            subst ea_
            subst ec_
            clear en_
            go_wp2
            go_meet
            case rel => exact ⟨_, ((((q05 l0_0 x4_1).f0) == 1)), (by first | rfl | (simp; done) | simp [*]), H', ⟨by have := HK1.out; first | omega | exact Nat.le_refl _⟩, ⟨by (with_reducible repeat (first | refine kN ?_ _ | refine kD ?_ | refine kA ?_ _)); exact BK212.out⟩, ⟨by repeat (first | (with_reducible first | exact HB.out | apply bA | apply bN | apply bD | refine bS ?_ GE212.out) | exact HB.out)⟩⟩
           ·rw [if_neg c16] at H
            have c16b0 : decide (0 < x4_1) = false := decide_eq_false c16
            clear c16
            have H' := aS H
            clear H
            have hcz18_0 : wr.cell? ⟨gb212, 0, none⟩ = some (.slice A0_0 l0_0.length c0_0) := (q02 BK212.out 0).trans rfl
            have hcz18_1 : wr.cell? ⟨gb212, 1, none⟩ = some (.bool a0_1) := (q02 BK212.out 1).trans rfl
            have hfz18_0 := q01 BK212.out 0
            have hfz18_1 := q01 BK212.out 1
            have p213 : 0 ≤ (x4_1 : Int) := od (by first | (with_reducible assumption) | assumption)
            have q213 : x4_1 < (l0_0.length : Int) := od (by first | (with_reducible assumption) | assumption)
            obtain ⟨ad213, A213_2, c213_2, A213_5, c213_5, e213, hx213_0, hx213_1, hx213_2, hx213_3, hx213_4, hx213_5, hl213_2, hi213_2, hl213_5, hi213_5⟩ := q1j HR0_0.out x4_1 p213 q213
            cases e213
            replace hx213_0 := (HB.out.cell (World.block_lt_of_cell? w _ hx213_0)).trans hx213_0
            replace hx213_1 := (HB.out.cell (World.block_lt_of_cell? w _ hx213_1)).trans hx213_1
            replace hx213_2 := (HB.out.cell (World.block_lt_of_cell? w _ hx213_2)).trans hx213_2
            replace hx213_3 := (HB.out.cell (World.block_lt_of_cell? w _ hx213_3)).trans hx213_3
            replace hx213_4 := (HB.out.cell (World.block_lt_of_cell? w _ hx213_4)).trans hx213_4
            replace hx213_5 := (HB.out.cell (World.block_lt_of_cell? w _ hx213_5)).trans hx213_5
            have HR213_2 := aS hi213_2
            have HC213_2 := aS hl213_2
            clear hi213_2 hl213_2
            have HR213_5 := aS hi213_5
            have HC213_5 := aS hl213_5
            clear hi213_5 hl213_5
            replace p213 := eq_true p213
            replace q213 := eq_true q213
            go_wp2
            go_meet
            case rel => exact ⟨_, (false), (by first | rfl | (simp; done) | simp [*]), H', ⟨by have := HK1.out; first | omega | exact Nat.le_refl _⟩, ⟨by (with_reducible repeat (first | refine kN ?_ _ | refine kD ?_ | refine kA ?_ _)); exact BK212.out⟩, ⟨by repeat (first | (with_reducible first | exact HB.out | apply bA | apply bN | apply bD | refine bS ?_ GE212.out) | exact HB.out)⟩⟩
          ·rw [if_neg c15] at H
           have c15b0 : (((q05 l0_0 x4_1).f0) == 1) = false := beq_eq_false_iff_ne.mpr c15
           have c15b1 : (((q05 l0_0 x4_1).f0) != 1) = true := bne_iff_ne.mpr c15
           have H' := aS H
           clear H
           have hcz19_0 : wr.cell? ⟨gb212, 0, none⟩ = some (.slice A0_0 l0_0.length c0_0) := (q02 BK212.out 0).trans rfl
           have hcz19_1 : wr.cell? ⟨gb212, 1, none⟩ = some (.bool a0_1) := (q02 BK212.out 1).trans rfl
           have hfz19_0 := q01 BK212.out 0
           have hfz19_1 := q01 BK212.out 1
           have p213 : 0 ≤ (x4_1 : Int) := od (by first | (with_reducible assumption) | assumption)
           have q213 : x4_1 < (l0_0.length : Int) := od (by first | (with_reducible assumption) | assumption)
           obtain ⟨ad213, A213_2, c213_2, A213_5, c213_5, e213, hx213_0, hx213_1, hx213_2, hx213_3, hx213_4, hx213_5, hl213_2, hi213_2, hl213_5, hi213_5⟩ := q1j HR0_0.out x4_1 p213 q213
           cases e213
           replace hx213_0 := (HB.out.cell (World.block_lt_of_cell? w _ hx213_0)).trans hx213_0
           replace hx213_1 := (HB.out.cell (World.block_lt_of_cell? w _ hx213_1)).trans hx213_1
           replace hx213_2 := (HB.out.cell (World.block_lt_of_cell? w _ hx213_2)).trans hx213_2
           replace hx213_3 := (HB.out.cell (World.block_lt_of_cell? w _ hx213_3)).trans hx213_3
           replace hx213_4 := (HB.out.cell (World.block_lt_of_cell? w _ hx213_4)).trans hx213_4
           replace hx213_5 := (HB.out.cell (World.block_lt_of_cell? w _ hx213_5)).trans hx213_5
           have HR213_2 := aS hi213_2
           have HC213_2 := aS hl213_2
           clear hi213_2 hl213_2
           have HR213_5 := aS hi213_5
           have HC213_5 := aS hl213_5
           clear hi213_5 hl213_5
           replace p213 := eq_true p213
           replace q213 := eq_true q213
           go_wp2
           go_meet
           case rel => exact ⟨_, (true), (by first | rfl | (simp; done) | simp [*]), H', ⟨by have := HK1.out; first | omega | exact Nat.le_refl _⟩, ⟨by (with_reducible repeat (first | refine kN ?_ _ | refine kD ?_ | refine kA ?_ _)); exact BK212.out⟩, ⟨by repeat (first | (with_reducible first | exact HB.out | apply bA | apply bN | apply bD | refine bS ?_ GE212.out) | exact HB.out)⟩⟩
         ·rw [if_neg c14] at H
          exact absurd H (by simp)
        ·rw [if_neg c13] at H
         exact absurd H (by simp)
       ·rw [if_neg c12] at H
        have c12b0 : (x4_1 == 0) = false := beq_eq_false_iff_ne.mpr c12
        have c12b1 : (x4_1 != 0) = true := bne_iff_ne.mpr c12
        (first | rw [c12b0] | (simp only [q1e, q1i]; rw [c12b0]) | skip)
        by_cases c20 : x4_1 > 0
        ·rw [if_pos c20] at H
         have c20b0 : decide (0 < x4_1) = true := decide_eq_true c20
         clear c20
         by_cases c21 : 0 ≤ x4_1
         ·rw [if_pos c21] at H
          have c21b0 : decide (0 ≤ x4_1) = true := decide_eq_true c21
          clear c21
          by_cases c22 : x4_1 < (l0_0.length : Int)
          ·rw [if_pos c22] at H
           have c22b0 : decide (x4_1 < (l0_0.length : Int)) = true := decide_eq_true c22
           clear c22
           have H' := aS H
           clear H
           have hcz23_0 : wr.cell? ⟨gb212, 0, none⟩ = some (.slice A0_0 l0_0.length c0_0) := (q02 BK212.out 0).trans rfl
           have hcz23_1 : wr.cell? ⟨gb212, 1, none⟩ = some (.bool a0_1) := (q02 BK212.out 1).trans rfl
           have hfz23_0 := q01 BK212.out 0
           have hfz23_1 := q01 BK212.out 1
           have p215 : 0 ≤ (x4_1 : Int) := od (by first | (with_reducible assumption) | assumption)
           have q215 : x4_1 < (l0_0.length : Int) := od (by first | (with_reducible assumption) | assumption)
           obtain ⟨ad215, A215_2, c215_2, A215_5, c215_5, e215, hx215_0, hx215_1, hx215_2, hx215_3, hx215_4, hx215_5, hl215_2, hi215_2, hl215_5, hi215_5⟩ := q1j HR0_0.out x4_1 p215 q215
           cases e215
           replace hx215_0 := (HB.out.cell (World.block_lt_of_cell? w _ hx215_0)).trans hx215_0
           replace hx215_1 := (HB.out.cell (World.block_lt_of_cell? w _ hx215_1)).trans hx215_1
           replace hx215_2 := (HB.out.cell (World.block_lt_of_cell? w _ hx215_2)).trans hx215_2
           replace hx215_3 := (HB.out.cell (World.block_lt_of_cell? w _ hx215_3)).trans hx215_3
           replace hx215_4 := (HB.out.cell (World.block_lt_of_cell? w _ hx215_4)).trans hx215_4
           replace hx215_5 := (HB.out.cell (World.block_lt_of_cell? w _ hx215_5)).trans hx215_5
           have HR215_2 := aS hi215_2
           have HC215_2 := aS hl215_2
           clear hi215_2 hl215_2
           have HR215_5 := aS hi215_5
           have HC215_5 := aS hl215_5
           clear hi215_5 hl215_5
           replace p215 := eq_true p215
           replace q215 := eq_true q215
           go_wp2
           go_meet
           case rel => exact ⟨_, ((((q05 l0_0 x4_1).f0) == 1)), (by first | rfl | (simp; done) | simp [*]), H', ⟨by have := HK1.out; first | omega | exact Nat.le_refl _⟩, ⟨by (with_reducible repeat (first | refine kN ?_ _ | refine kD ?_ | refine kA ?_ _)); exact BK212.out⟩, ⟨by repeat (first | (with_reducible first | exact HB.out | apply bA | apply bN | apply bD | refine bS ?_ GE212.out) | exact HB.out)⟩⟩
          ·rw [if_neg c22] at H
           exact absurd H (by simp)
         ·rw [if_neg c21] at H
          exact absurd H (by simp)
        ·rw [if_neg c20] at H
         have c20b0 : decide (0 < x4_1) = false := decide_eq_false c20
         clear c20
         have H' := aS H
         clear H
         go_wp2
         go_meet
         case rel => exact ⟨_, (false), (by first | rfl | (simp; done) | simp [*]), H', ⟨by have := HK1.out; first | omega | exact Nat.le_refl _⟩, ⟨by (with_reducible repeat (first | refine kN ?_ _ | refine kD ?_ | refine kA ?_ _)); exact BK212.out⟩, ⟨by repeat (first | (with_reducible first | exact HB.out | apply bA | apply bN | apply bD | refine bS ?_ GE212.out) | exact HB.out)⟩⟩
      case rest =>
       clear HC11
       try clear c1
       try clear c2
       try clear c2b0
       try clear c2b1
       try clear p2
       try clear q2
       try clear hx2
       try clear c5
       try clear c5b0
       try clear c5b1
       try clear c5b2
       try clear c10
       try clear c10b0
       try clear c12
       try clear c12b0
       try clear c12b1
       try clear c13
       try clear c13b0
       try clear c14
       try clear c14b0
       try clear c15
       try clear c15b0
       try clear c15b1
       try clear c16
       try clear c16b0
       try clear c17
       try clear c20
       try clear c20b0
       try clear c21
       try clear c21b0
       try clear p21
       try clear q21
       try clear hx21
       try clear c22
       try clear c22b0
       try clear hcz17_0
       try clear hcz17_1
       try clear hcz18_0
       try clear hcz18_1
       try clear hcz19_0
       try clear hcz19_1
       try clear hcz23_0
       try clear hcz23_1
       try clear hcz4_0
       try clear hcz4_1
       try clear hcz7_0
       try clear hcz7_1
       try clear hcz9_0
       try clear hcz9_1
       try clear hfz17_0
       try clear hfz17_1
       try clear hfz18_0
       try clear hfz18_1
       try clear hfz19_0
       try clear hfz19_1
       try clear hfz23_0
       try clear hfz23_1
       try clear hfz4_0
       try clear hfz4_1
       try clear hfz7_0
       try clear hfz7_1
       try clear hfz9_0
       try clear hfz9_1
       try clear hx213_0
       try clear hx213_1
       try clear hx213_2
       try clear hx213_3
       try clear hx213_4
       try clear hx213_5
       try clear hx214_0
       try clear hx214_1
       try clear hx214_2
       try clear hx214_3
       try clear hx214_4
       try clear hx214_5
       try clear hx215_0
       try clear hx215_1
       try clear hx215_2
       try clear hx215_3
       try clear hx215_4
       try clear hx215_5
       try clear p2
       try clear p213
       try clear p214
       try clear p215
       try clear q213
       try clear q214
       try clear q215
       obtain ⟨kq, x48_10, rfl, HA, HJ10, BK212, HB⟩ := hcut
       cases kq with
       | zero => exact absurd HA.out (by simp [q03.j1])
       | succ kj10 =>
        have H := HA.out
        clear HA
        simp only [q03.j1] at H
        by_cases c24 : x48_10 = true
        ·subst c24
         have H1 : (some 3) = some r := by rw [if_pos rfl] at H; exact H
         clear H
         have H := H1
         clear H1
         obtain rfl := Option.some.inj H
         go_wp2
         go_ret
         exact ⟨by first | rfl | (simp [q0b, q0a] <;> rfl) | (simp [*, q0b, q0a] <;> rfl), by repeat (first | (with_reducible first | exact HB.out | apply bA | apply bN | apply bD | refine bS ?_ GE212.out) | exact HB.out)⟩
        ·replace c24 := Bool.eq_false_iff.mpr c24
         subst c24
         have H1 : (if 0 ≤ x4_1 then (if x4_1 < (l0_0.length : Int) then ((q00.f kj10 ((q05 l0_0 x4_1).f0) ((q05 l0_0 x4_1).f1) ((q05 l0_0 x4_1).f2) ((q05 l0_0 x4_1).f3) ((q05 l0_0 x4_1).f4) ((q05 l0_0 x4_1).f5)).bind fun t217 => (if t217 = 0 then (q03.l0 kj10 (l0_0.length : Int) (wrap64 (x4_1 + 1)) l0_0 a0_1) else (some t217))) else (none)) else (none)) = some r := by rw [if_neg (show ¬ (false = true) by decide)] at H; exact H
         clear H
         have H := H1
         clear H1
         by_cases c25 : 0 ≤ x4_1
         ·rw [if_pos c25] at H
          have c25b0 : decide (0 ≤ x4_1) = true := decide_eq_true c25
          clear c25
          by_cases c26 : x4_1 < (l0_0.length : Int)
          ·rw [if_pos c26] at H
           have c26b0 : decide (x4_1 < (l0_0.length : Int)) = true := decide_eq_true c26
           clear c26
           replace H := Option.bind_eq_some_iff.mp H
           obtain ⟨t217, A270, H⟩ := H
           replace H : (if t217 = 0 then (q03.l0 kj10 (l0_0.length : Int) (wrap64 (x4_1 + 1)) l0_0 a0_1) else (some t217)) = some r := H
           have A27 := aS A270
           clear A270
           by_cases c28 : t217 = 0
           ·rw [if_pos c28] at H
            have c28b0 : (t217 == 0) = true := beq_iff_eq.mpr c28
            have c28b1 : (t217 != 0) = false := bne_eq_false_iff_eq.mpr c28
            clear c28
            have H' := aS H
            clear H
            have hcz29_0 : wc.cell? ⟨gb212, 0, none⟩ = some (.slice A0_0 l0_0.length c0_0) := (q02 BK212.out 0).trans rfl
            have hcz29_1 : wc.cell? ⟨gb212, 1, none⟩ = some (.bool a0_1) := (q02 BK212.out 1).trans rfl
            have hfz29_0 := q01 BK212.out 0
            have hfz29_1 := q01 BK212.out 1
            have p216 : 0 ≤ (x4_1 : Int) := od (by first | (with_reducible assumption) | assumption)
            have q216 : x4_1 < (l0_0.length : Int) := od (by first | (with_reducible assumption) | assumption)
            obtain ⟨ad216, A216_2, c216_2, A216_5, c216_5, e216, hx216_0, hx216_1, hx216_2, hx216_3, hx216_4, hx216_5, hl216_2, hi216_2, hl216_5, hi216_5⟩ := q1j HR0_0.out x4_1 p216 q216
            cases e216
            replace hx216_0 := (HB.out.cell (World.block_lt_of_cell? w _ hx216_0)).trans hx216_0
            replace hx216_1 := (HB.out.cell (World.block_lt_of_cell? w _ hx216_1)).trans hx216_1
            replace hx216_2 := (HB.out.cell (World.block_lt_of_cell? w _ hx216_2)).trans hx216_2
            replace hx216_3 := (HB.out.cell (World.block_lt_of_cell? w _ hx216_3)).trans hx216_3
            replace hx216_4 := (HB.out.cell (World.block_lt_of_cell? w _ hx216_4)).trans hx216_4
            replace hx216_5 := (HB.out.cell (World.block_lt_of_cell? w _ hx216_5)).trans hx216_5
            have HR216_2 := aS hi216_2
            have HC216_2 := aS hl216_2
            clear hi216_2 hl216_2
            have HR216_5 := aS hi216_5
            have HC216_5 := aS hl216_5
            clear hi216_5 hl216_5
            replace p216 := eq_true p216
            replace q216 := eq_true q216
            go_wp2_with (first | ((with_reducible refine q0l (f := 72) rfl ?_); refine q1d (some 54) rfl rfl Tryd.func72 (by kernel_rfl) rfl #[.agg #[.int .i64 ((q05 l0_0 x4_1).f0), .string ((q05 l0_0 x4_1).f1), .slice A216_2 ((q05 l0_0 x4_1).f2).length c216_2, .string ((q05 l0_0 x4_1).f3), .int .i64 ((q05 l0_0 x4_1).f4), .slice A216_5 ((q05 l0_0 x4_1).f5).length c216_5]] rfl (by (try simp only [List.map_toArray, List.map_cons, List.map_nil]); first | done | rfl | (simp only [List.length_drop, List.length_take]; rfl)) ?_; (with_reducible refine (q00.calls kj10 ((q05 l0_0 x4_1).f0) ((q05 l0_0 x4_1).f1) _ _ ((q05 l0_0 x4_1).f2) ((q05 l0_0 x4_1).f3) ((q05 l0_0 x4_1).f4) _ _ ((q05 l0_0 x4_1).f5) t217 _ ?side1 ?side2 ?side3 ?side4 A27.out).mono ?_); (case side1 => repeat (first | exact (Kd.C_below HR216_2.out HB.out) | (with_reducible refine cA ?_ _) | (with_reducible refine cN ?_ _) | (with_reducible refine cD ?_))); (case side2 => exact HC216_2.out); (case side3 => repeat (first | exact (Kd.C_below HR216_5.out HB.out) | (with_reducible refine cA ?_ _) | (with_reducible refine cN ?_ _) | (with_reducible refine cD ?_))); (case side4 => exact HC216_5.out); rintro e w30 ⟨rfl, hb⟩; refine ⟨_, rfl, ?_⟩; have n0_ := aS (q16 (g := gb212) (o := .cells #[.slice (some ad216) l0_0.length c0_0, .bool a0_1] 24 (0, 0)) (by (with_reducible repeat (first | refine kN ?_ _ | refine kD ?_ | refine kA ?_ _)); exact BK212.out) hb); have n1_ := aS (q09 (by repeat (first | (with_reducible first | exact HB.out | apply bA | apply bN | apply bD | refine bS ?_ GE212.out) | exact HB.out)) hb); clear BK212; clear HB; have BK212 := n0_; have HB := n1_; clear n0_ n1_; (try clear hb); (try clear hb2); (try clear hk); (try clear hi)))
            go_roundg kj10
            case measure => have := HK1.out; have := HJ10.out; omega
            case rel => exact ⟨(wrap64 (x4_1 + 1)), (by first | rfl | (simp; done) | simp [*]), H', ⟨by have := HK1.out; have := HJ10.out; omega⟩, ⟨by (with_reducible repeat (first | refine kN ?_ _ | refine kD ?_ | refine kA ?_ _)); exact BK212.out⟩, ⟨by repeat (first | (with_reducible first | exact HB.out | apply bA | apply bN | apply bD | refine bS ?_ GE212.out) | exact HB.out)⟩⟩
           ·rw [if_neg c28] at H
            have c28b0 : (t217 == 0) = false := beq_eq_false_iff_ne.mpr c28
            have c28b1 : (t217 != 0) = true := bne_iff_ne.mpr c28
            obtain rfl := Option.some.inj H
            have hcz31_0 : wc.cell? ⟨gb212, 0, none⟩ = some (.slice A0_0 l0_0.length c0_0) := (q02 BK212.out 0).trans rfl
            have hcz31_1 : wc.cell? ⟨gb212, 1, none⟩ = some (.bool a0_1) := (q02 BK212.out 1).trans rfl
            have hfz31_0 := q01 BK212.out 0
            have hfz31_1 := q01 BK212.out 1
            have p216 : 0 ≤ (x4_1 : Int) := od (by first | (with_reducible assumption) | assumption)
            have q216 : x4_1 < (l0_0.length : Int) := od (by first | (with_reducible assumption) | assumption)
            obtain ⟨ad216, A216_2, c216_2, A216_5, c216_5, e216, hx216_0, hx216_1, hx216_2, hx216_3, hx216_4, hx216_5, hl216_2, hi216_2, hl216_5, hi216_5⟩ := q1j HR0_0.out x4_1 p216 q216
            cases e216
            replace hx216_0 := (HB.out.cell (World.block_lt_of_cell? w _ hx216_0)).trans hx216_0
            replace hx216_1 := (HB.out.cell (World.block_lt_of_cell? w _ hx216_1)).trans hx216_1
            replace hx216_2 := (HB.out.cell (World.block_lt_of_cell? w _ hx216_2)).trans hx216_2
            replace hx216_3 := (HB.out.cell (World.block_lt_of_cell? w _ hx216_3)).trans hx216_3
            replace hx216_4 := (HB.out.cell (World.block_lt_of_cell? w _ hx216_4)).trans hx216_4
            replace hx216_5 := (HB.out.cell (World.block_lt_of_cell? w _ hx216_5)).trans hx216_5
            have HR216_2 := aS hi216_2
            have HC216_2 := aS hl216_2
            clear hi216_2 hl216_2
            have HR216_5 := aS hi216_5
            have HC216_5 := aS hl216_5
            clear hi216_5 hl216_5
            replace p216 := eq_true p216
            replace q216 := eq_true q216
            go_wp2_with (first | ((with_reducible refine q0l (f := 72) rfl ?_); refine q1d (some 54) rfl rfl Tryd.func72 (by kernel_rfl) rfl #[.agg #[.int .i64 ((q05 l0_0 x4_1).f0), .string ((q05 l0_0 x4_1).f1), .slice A216_2 ((q05 l0_0 x4_1).f2).length c216_2, .string ((q05 l0_0 x4_1).f3), .int .i64 ((q05 l0_0 x4_1).f4), .slice A216_5 ((q05 l0_0 x4_1).f5).length c216_5]] rfl (by (try simp only [List.map_toArray, List.map_cons, List.map_nil]); first | done | rfl | (simp only [List.length_drop, List.length_take]; rfl)) ?_; (with_reducible refine (q00.calls kj10 ((q05 l0_0 x4_1).f0) ((q05 l0_0 x4_1).f1) _ _ ((q05 l0_0 x4_1).f2) ((q05 l0_0 x4_1).f3) ((q05 l0_0 x4_1).f4) _ _ ((q05 l0_0 x4_1).f5) t217 _ ?side1 ?side2 ?side3 ?side4 A27.out).mono ?_); (case side1 => repeat (first | exact (Kd.C_below HR216_2.out HB.out) | (with_reducible refine cA ?_ _) | (with_reducible refine cN ?_ _) | (with_reducible refine cD ?_))); (case side2 => exact HC216_2.out); (case side3 => repeat (first | exact (Kd.C_below HR216_5.out HB.out) | (with_reducible refine cA ?_ _) | (with_reducible refine cN ?_ _) | (with_reducible refine cD ?_))); (case side4 => exact HC216_5.out); rintro e w32 ⟨rfl, hb⟩; refine ⟨_, rfl, ?_⟩; have n0_ := aS (q16 (g := gb212) (o := .cells #[.slice (some ad216) l0_0.length c0_0, .bool a0_1] 24 (0, 0)) (by (with_reducible repeat (first | refine kN ?_ _ | refine kD ?_ | refine kA ?_ _)); exact BK212.out) hb); have n1_ := aS (q09 (by repeat (first | (with_reducible first | exact HB.out | apply bA | apply bN | apply bD | refine bS ?_ GE212.out) | exact HB.out)) hb); clear BK212; clear HB; have BK212 := n0_; have HB := n1_; clear n0_ n1_; (try clear hb); (try clear hb2); (try clear hk); (try clear hi)))
            go_ret
            exact ⟨by first | rfl | (simp [q0b, q0a] <;> rfl) | (simp [*, q0b, q0a] <;> rfl), by repeat (first | (with_reducible first | exact HB.out | apply bA | apply bN | apply bD | refine bS ?_ GE212.out) | exact HB.out)⟩
          ·rw [if_neg c26] at H
           exact absurd H (by simp)
         ·rw [if_neg c25] at H
          exact absurd H (by simp)
     ·rw [if_neg c10] at H
      have c10b0 : decide (x4_1 < (l0_0.length : Int)) = false := decide_eq_false c10
      clear c10
      have H' := aS H
      clear H
      go_wp2
      go_loopg [6] k1 (fun kq v6 w' => ∃ (x6_2 : Int), v6 = .int .i64 x6_2 ∧ Aside0 (q03.l1 kq (l0_0.length : Int) x6_2 l0_0 a0_1 = some r) ∧ Aside0 (kq ≤ k1) ∧ Aside0 (w'.heap[gb212]? = some (.cells #[(.slice A0_0 l0_0.length c0_0), .bool a0_1] 24 (0, 0))) ∧ Aside0 (Below w.heap.size w w'))
      case atStart => exact ⟨(0), (by first | rfl | (simp; done) | simp [*]), H', ⟨Nat.le_refl _⟩, ⟨by (with_reducible repeat (first | refine kN ?_ _ | refine kD ?_ | refine kA ?_ _)); exact BK212.out⟩, ⟨by repeat (first | (with_reducible first | exact HB.out | apply bA | apply bN | apply bD | refine bS ?_ GE212.out) | exact HB.out)⟩⟩
      case round =>
       clear H'
       try clear c1
       try clear c2
       try clear c2b0
       try clear c2b1
       try clear p2
       try clear q2
       try clear hx2
       try clear c5
       try clear c5b0
       try clear c5b1
       try clear c5b2
       try clear p6
       try clear c7
       try clear c10
       try clear c10b0
       try clear c12
       try clear c12b0
       try clear c12b1
       try clear c13
       try clear c13b0
       try clear c14
       try clear c14b0
       try clear c15
       try clear c15b0
       try clear c15b1
       try clear c16
       try clear c16b0
       try clear c17
       try clear c20
       try clear c20b0
       try clear c21
       try clear c21b0
       try clear p21
       try clear q21
       try clear hx21
       try clear c22
       try clear c22b0
       try clear c24
       try clear c25
       try clear c25b0
       try clear c26
       try clear c26b0
       try clear c28
       try clear c28b0
       try clear c28b1
       try clear hcz17_0
       try clear hcz17_1
       try clear hcz18_0
       try clear hcz18_1
       try clear hcz19_0
       try clear hcz19_1
       try clear hcz23_0
       try clear hcz23_1
       try clear hcz29_0
       try clear hcz29_1
       try clear hcz31_0
       try clear hcz31_1
       try clear hcz4_0
       try clear hcz4_1
       try clear hcz7_0
       try clear hcz7_1
       try clear hcz9_0
       try clear hcz9_1
       try clear hfz17_0
       try clear hfz17_1
       try clear hfz18_0
       try clear hfz18_1
       try clear hfz19_0
       try clear hfz19_1
       try clear hfz23_0
       try clear hfz23_1
       try clear hfz29_0
       try clear hfz29_1
       try clear hfz31_0
       try clear hfz31_1
       try clear hfz4_0
       try clear hfz4_1
       try clear hfz7_0
       try clear hfz7_1
       try clear hfz9_0
       try clear hfz9_1
       try clear hx213_0
       try clear hx213_1
       try clear hx213_2
       try clear hx213_3
       try clear hx213_4
       try clear hx213_5
       try clear hx214_0
       try clear hx214_1
       try clear hx214_2
       try clear hx214_3
       try clear hx214_4
       try clear hx214_5
       try clear hx215_0
       try clear hx215_1
       try clear hx215_2
       try clear hx215_3
       try clear hx215_4
       try clear hx215_5
       try clear hx216_0
       try clear hx216_1
       try clear hx216_2
       try clear hx216_3
       try clear hx216_4
       try clear hx216_5
       try clear p2
       try clear p21
       try clear p213
       try clear p214
       try clear p215
       try clear p216
       try clear q2
       try clear q21
       try clear q213
       try clear q214
       try clear q215
       try clear q216
       obtain ⟨x6_2, rfl, HA, HK2, BK212, HB⟩ := hrel
       cases gk with
       | zero => exact absurd HA.out (by simp [q03.l1])
       | succ k2 =>
        have H := HA.out
        clear HA
        simp only [q03.l1] at H
        by_cases c33 : x6_2 < (l0_0.length : Int)
        ·rw [if_pos c33] at H
         have c33b0 : decide (x6_2 < (l0_0.length : Int)) = true := decide_eq_true c33
         clear c33
         have H' := aS H
         clear H
         go_wp2
         go_loopg [7] k2 (fun kq v7 w' => ∃ (x7_3 : Int), v7 = .int .i64 x7_3 ∧ Aside0 (q03.l2 kq (l0_0.length : Int) x6_2 x7_3 l0_0 a0_1 = some r) ∧ Aside0 (kq ≤ k2) ∧ Aside0 (w'.heap[gb212]? = some (.cells #[(.slice A0_0 l0_0.length c0_0), .bool a0_1] 24 (0, 0))) ∧ Aside0 (Below w.heap.size w w'))
         case atStart => exact ⟨(0), (by first | rfl | (simp; done) | simp [*]), H', ⟨Nat.le_refl _⟩, ⟨by (with_reducible repeat (first | refine kN ?_ _ | refine kD ?_ | refine kA ?_ _)); exact BK212.out⟩, ⟨by repeat (first | (with_reducible first | exact HB.out | apply bA | apply bN | apply bD | refine bS ?_ GE212.out) | exact HB.out)⟩⟩
         case round =>
          clear H'
          try clear c1
          try clear c2
          try clear c2b0
          try clear c2b1
          try clear p2
          try clear q2
          try clear hx2
          try clear c3
          try clear c5
          try clear c5b0
          try clear c5b1
          try clear c5b2
          try clear p6
          try clear c7
          try clear c10
          try clear c10b0
          try clear c12
          try clear c12b0
          try clear c12b1
          try clear c13
          try clear c13b0
          try clear c14
          try clear c14b0
          try clear c15
          try clear c15b0
          try clear c15b1
          try clear c16
          try clear c16b0
          try clear c17
          try clear c20
          try clear c20b0
          try clear c21
          try clear c21b0
          try clear p21
          try clear q21
          try clear hx21
          try clear c22
          try clear c22b0
          try clear c24
          try clear c25
          try clear c25b0
          try clear c26
          try clear c26b0
          try clear c28
          try clear c28b0
          try clear c28b1
          try clear c33
          try clear c33b0
          try clear hcz17_0
          try clear hcz17_1
          try clear hcz18_0
          try clear hcz18_1
          try clear hcz19_0
          try clear hcz19_1
          try clear hcz23_0
          try clear hcz23_1
          try clear hcz29_0
          try clear hcz29_1
          try clear hcz31_0
          try clear hcz31_1
          try clear hcz4_0
          try clear hcz4_1
          try clear hcz7_0
          try clear hcz7_1
          try clear hcz9_0
          try clear hcz9_1
          try clear hfz17_0
          try clear hfz17_1
          try clear hfz18_0
          try clear hfz18_1
          try clear hfz19_0
          try clear hfz19_1
          try clear hfz23_0
          try clear hfz23_1
          try clear hfz29_0
          try clear hfz29_1
          try clear hfz31_0
          try clear hfz31_1
          try clear hfz4_0
          try clear hfz4_1
          try clear hfz7_0
          try clear hfz7_1
          try clear hfz9_0
          try clear hfz9_1
          try clear hx213_0
          try clear hx213_1
          try clear hx213_2
          try clear hx213_3
          try clear hx213_4
          try clear hx213_5
          try clear hx214_0
          try clear hx214_1
          try clear hx214_2
          try clear hx214_3
          try clear hx214_4
          try clear hx214_5
          try clear hx215_0
          try clear hx215_1
          try clear hx215_2
          try clear hx215_3
          try clear hx215_4
          try clear hx215_5
          try clear hx216_0
          try clear hx216_1
          try clear hx216_2
          try clear hx216_3
          try clear hx216_4
          try clear hx216_5
          try clear p2
          try clear p21
          try clear p213
          try clear p214
          try clear p215
          try clear p216
          try clear p6
          try clear q2
          try clear q21
          try clear q213
          try clear q214
          try clear q215
          try clear q216
          obtain ⟨x7_3, rfl, HA, HK3, BK212, HB⟩ := hrel
          cases gk with
          | zero => exact absurd HA.out (by simp [q03.l2])
          | succ k3 =>
           have H := HA.out
           clear HA
           simp only [q03.l2] at H
           by_cases c34 : 0 ≤ x6_2
           ·rw [if_pos c34] at H
            have c34b0 : decide (0 ≤ x6_2) = true := decide_eq_true c34
            clear c34
            by_cases c35 : x6_2 < (l0_0.length : Int)
            ·rw [if_pos c35] at H
             have c35b0 : decide (x6_2 < (l0_0.length : Int)) = true := decide_eq_true c35
             clear c35
             by_cases c36 : x7_3 < (((q05 l0_0 x6_2).f5).length : Int)
             ·rw [if_pos c36] at H
              have c36b0 : decide (x7_3 < (((q05 l0_0 x6_2).f5).length : Int)) = true := decide_eq_true c36
              clear c36
              by_cases c37 : 0 ≤ x7_3
              ·rw [if_pos c37] at H
               have c37b0 : decide (0 ≤ x7_3) = true := decide_eq_true c37
               clear c37
               have HC38 := aS H
               clear H
               have hcz39_0 : wr.cell? ⟨gb212, 0, none⟩ = some (.slice A0_0 l0_0.length c0_0) := (q02 BK212.out 0).trans rfl
               have hcz39_1 : wr.cell? ⟨gb212, 1, none⟩ = some (.bool a0_1) := (q02 BK212.out 1).trans rfl
               have hfz39_0 := q01 BK212.out 0
               have hfz39_1 := q01 BK212.out 1
               have p218 : 0 ≤ (x6_2 : Int) := od (by first | (with_reducible assumption) | assumption)
               have q218 : x6_2 < (l0_0.length : Int) := od (by first | (with_reducible assumption) | assumption)
               obtain ⟨ad218, A218_2, c218_2, A218_5, c218_5, e218, hx218_0, hx218_1, hx218_2, hx218_3, hx218_4, hx218_5, hl218_2, hi218_2, hl218_5, hi218_5⟩ := q1j HR0_0.out x6_2 p218 q218
               cases e218
               replace hx218_0 := (HB.out.cell (World.block_lt_of_cell? w _ hx218_0)).trans hx218_0
               replace hx218_1 := (HB.out.cell (World.block_lt_of_cell? w _ hx218_1)).trans hx218_1
               replace hx218_2 := (HB.out.cell (World.block_lt_of_cell? w _ hx218_2)).trans hx218_2
               replace hx218_3 := (HB.out.cell (World.block_lt_of_cell? w _ hx218_3)).trans hx218_3
               replace hx218_4 := (HB.out.cell (World.block_lt_of_cell? w _ hx218_4)).trans hx218_4
               replace hx218_5 := (HB.out.cell (World.block_lt_of_cell? w _ hx218_5)).trans hx218_5
               have HR218_2 := aS hi218_2
               have HC218_2 := aS hl218_2
               clear hi218_2 hl218_2
               have HR218_5 := aS hi218_5
               have HC218_5 := aS hl218_5
               clear hi218_5 hl218_5
               replace p218 := eq_true p218
               replace q218 := eq_true q218
               have p219 : 0 ≤ (x6_2 : Int) := od (by first | (with_reducible assumption) | assumption)
               have q219 : x6_2 < (l0_0.length : Int) := od (by first | (with_reducible assumption) | assumption)
               obtain ⟨ad219, A219_2, c219_2, A219_5, c219_5, e219, hx219_0, hx219_1, hx219_2, hx219_3, hx219_4, hx219_5, hl219_2, hi219_2, hl219_5, hi219_5⟩ := q1j HR0_0.out x6_2 p219 q219
               obtain rfl : ad218 = ad219 := (by injection e219)
               replace hx219_0 := (HB.out.cell (World.block_lt_of_cell? w _ hx219_0)).trans hx219_0
               replace hx219_1 := (HB.out.cell (World.block_lt_of_cell? w _ hx219_1)).trans hx219_1
               replace hx219_2 := (HB.out.cell (World.block_lt_of_cell? w _ hx219_2)).trans hx219_2
               replace hx219_3 := (HB.out.cell (World.block_lt_of_cell? w _ hx219_3)).trans hx219_3
               replace hx219_4 := (HB.out.cell (World.block_lt_of_cell? w _ hx219_4)).trans hx219_4
               replace hx219_5 := (HB.out.cell (World.block_lt_of_cell? w _ hx219_5)).trans hx219_5
               have HR219_2 := aS hi219_2
               have HC219_2 := aS hl219_2
               clear hi219_2 hl219_2
               have HR219_5 := aS hi219_5
               have HC219_5 := aS hl219_5
               clear hi219_5 hl219_5
               replace p219 := eq_true p219
               replace q219 := eq_true q219
               have ea_ := Option.some.inj (hx218_2.symm.trans hx219_2)
               injection ea_ with ea_ en_ ec_
               subst ea_
               subst ec_
               clear en_
               have ea_ := Option.some.inj (hx218_5.symm.trans hx219_5)
               injection ea_ with ea_ en_ ec_
               subst ea_
               subst ec_
               clear en_
               have p220 : 0 ≤ (x7_3 : Int) := od (by first | (with_reducible assumption) | assumption)
               have q220 : x7_3 < (((q05 l0_0 x6_2).f5).length : Int) := od (by first | (with_reducible assumption) | assumption)
               obtain ⟨ad220, e220, hx220_0⟩ := Kd.at_int HR219_5.out x7_3 p220 q220
               cases e220
               replace hx220_0 := (HB.out.cell (World.block_lt_of_cell? w _ hx220_0)).trans hx220_0
               replace p220 := eq_true p220
               replace q220 := eq_true q220
               go_upto_region 21 with (fail)
               go_cut [110] (fun v110 wc => ∃ (kq : Nat) (x110_37 : Bool), v110 = .bool x110_37 ∧ Aside0 (q03.j4 kq (l0_0.length : Int) x6_2 x7_3 (rd ((q05 l0_0 x6_2).f5) x7_3) x110_37 l0_0 a0_1 = some r) ∧ Aside0 (kq ≤ k3) ∧ Aside0 (wc.heap[gb212]? = some (.cells #[(.slice (some ad218) l0_0.length c0_0), .bool a0_1] 24 (0, 0))) ∧ Aside0 (Below w.heap.size w wc))
               case first =>
                have H := HC38.out
                clear HC38
                replace H := Option.bind_eq_some_iff.mp H
                obtain ⟨t221, A400, H⟩ := H
                replace H : (if t221 = true then (if 0 ≤ (rd ((q05 l0_0 x6_2).f5) x7_3) then (if (rd ((q05 l0_0 x6_2).f5) x7_3) < (l0_0.length : Int) then (if ((q05 l0_0 (rd ((q05 l0_0 x6_2).f5) x7_3)).f4) = x6_2 then (if x7_3 ≤ (((q05 l0_0 x6_2).f5).length : Int) then ((q08.f k3 (((q05 l0_0 x6_2).f5).take (x7_3 : Int).toNat) (rd ((q05 l0_0 x6_2).f5) x7_3)).bind fun t225 => (q03.j4 k3 (l0_0.length : Int) x6_2 x7_3 (rd ((q05 l0_0 x6_2).f5) x7_3) (decide (t225 ≥ 0)) l0_0 a0_1)) else (none)) else (q03.j4 k3 (l0_0.length : Int) x6_2 x7_3 (rd ((q05 l0_0 x6_2).f5) x7_3) true l0_0 a0_1)) else (none)) else (none)) else (q03.j4 k3 (l0_0.length : Int) x6_2 x7_3 (rd ((q05 l0_0 x6_2).f5) x7_3) true l0_0 a0_1)) = some r := H
                have A40 := aS A400
                clear A400
                by_cases c41 : t221 = true
                ·subst c41
                 have H1 : (if 0 ≤ (rd ((q05 l0_0 x6_2).f5) x7_3) then (if (rd ((q05 l0_0 x6_2).f5) x7_3) < (l0_0.length : Int) then (if ((q05 l0_0 (rd ((q05 l0_0 x6_2).f5) x7_3)).f4) = x6_2 then (if x7_3 ≤ (((q05 l0_0 x6_2).f5).length : Int) then ((q08.f k3 (((q05 l0_0 x6_2).f5).take (x7_3 : Int).toNat) (rd ((q05 l0_0 x6_2).f5) x7_3)).bind fun t225 => (q03.j4 k3 (l0_0.length : Int) x6_2 x7_3 (rd ((q05 l0_0 x6_2).f5) x7_3) (decide (t225 ≥ 0)) l0_0 a0_1)) else (none)) else (q03.j4 k3 (l0_0.length : Int) x6_2 x7_3 (rd ((q05 l0_0 x6_2).f5) x7_3) true l0_0 a0_1)) else (none)) else (none)) = some r := by rw [if_pos rfl] at H; exact H
                 clear H
                 have H := H1
                 clear H1
                 by_cases c42 : 0 ≤ (rd ((q05 l0_0 x6_2).f5) x7_3)
                 ·rw [if_pos c42] at H
                  have c42b0 : decide (0 ≤ (rd ((q05 l0_0 x6_2).f5) x7_3)) = true := decide_eq_true c42
                  clear c42
                  (first | rw [c42b0] | (simp only [q1e, q1i]; rw [c42b0]) | skip)
                  by_cases c43 : (rd ((q05 l0_0 x6_2).f5) x7_3) < (l0_0.length : Int)
                  ·rw [if_pos c43] at H
                   have c43b0 : decide ((rd ((q05 l0_0 x6_2).f5) x7_3) < (l0_0.length : Int)) = true := decide_eq_true c43
                   clear c43
                   by_cases c44 : ((q05 l0_0 (rd ((q05 l0_0 x6_2).f5) x7_3)).f4) = x6_2
                   ·rw [if_pos c44] at H
                    have c44b0 : (((q05 l0_0 (rd ((q05 l0_0 x6_2).f5) x7_3)).f4) == x6_2) = true := beq_iff_eq.mpr c44
                    have c44b1 : (((q05 l0_0 (rd ((q05 l0_0 x6_2).f5) x7_3)).f4) != x6_2) = false := bne_eq_false_iff_eq.mpr c44
                    clear c44
                    have c45b0 := eq_true (od (by first | (with_reducible assumption) | assumption) : 0 ≤ x7_3)
                    by_cases c46 : x7_3 ≤ (((q05 l0_0 x6_2).f5).length : Int)
                    ·rw [if_pos c46] at H
                     have c46b0 := eq_true c46
                     have c46b1 : decide (x7_3 ≤ (((q05 l0_0 x6_2).f5).length : Int)) = true := decide_eq_true c46
                     clear c46
                     replace H := Option.bind_eq_some_iff.mp H
                     obtain ⟨t225, A470, H⟩ := H
                     replace H : (q03.j4 k3 (l0_0.length : Int) x6_2 x7_3 (rd ((q05 l0_0 x6_2).f5) x7_3) (decide (t225 ≥ 0)) l0_0 a0_1) = some r := H
                     have A47 := aS A470
                     clear A470
                     have H' := aS H
                     clear H
                     go_wp2_with (first | ((with_reducible refine q0l (f := 73) rfl ?_); refine q1d (some 86) rfl rfl Tryd.func73 (by kernel_rfl) rfl #[.int .i64 (rd ((q05 l0_0 x6_2).f5) x7_3), .int .i64 0, .int .i64 (wrap64 ((l0_0.length : Int) - 1))] rfl (by (try simp only [List.map_toArray, List.map_cons, List.map_nil]); first | done | rfl | (simp only [List.length_drop, List.length_take]; rfl)) ?_; (with_reducible refine (q0p.calls (rd ((q05 l0_0 x6_2).f5) x7_3) 0 (wrap64 ((l0_0.length : Int) - 1)) true _ A40.out).mono ?_); rintro e w' ⟨rfl, ⟨nd, rfl⟩⟩; refine ⟨_, rfl, ?_⟩; have hcz48_0 : wr.cell? ⟨gb212, 0, none⟩ = some (.slice (some ad218) l0_0.length c0_0) := (q02 BK212.out 0).trans rfl; have hcz48_1 : wr.cell? ⟨gb212, 1, none⟩ = some (.bool a0_1) := (q02 BK212.out 1).trans rfl; have hfz48_0 := q01 BK212.out 0; have hfz48_1 := q01 BK212.out 1; have p222 : 0 ≤ ((rd ((q05 l0_0 x6_2).f5) x7_3) : Int) := od (by first | (with_reducible assumption) | assumption); have q222 : (rd ((q05 l0_0 x6_2).f5) x7_3) < (l0_0.length : Int) := od (by first | (with_reducible assumption) | assumption); obtain ⟨ad222, A222_2, c222_2, A222_5, c222_5, e222, hx222_0, hx222_1, hx222_2, hx222_3, hx222_4, hx222_5, hl222_2, hi222_2, hl222_5, hi222_5⟩ := q1j HR0_0.out (rd ((q05 l0_0 x6_2).f5) x7_3) p222 q222; obtain rfl : ad218 = ad222 := (by injection e222); replace hx222_0 := (HB.out.cell (World.block_lt_of_cell? w _ hx222_0)).trans hx222_0; replace hx222_1 := (HB.out.cell (World.block_lt_of_cell? w _ hx222_1)).trans hx222_1; replace hx222_2 := (HB.out.cell (World.block_lt_of_cell? w _ hx222_2)).trans hx222_2; replace hx222_3 := (HB.out.cell (World.block_lt_of_cell? w _ hx222_3)).trans hx222_3; replace hx222_4 := (HB.out.cell (World.block_lt_of_cell? w _ hx222_4)).trans hx222_4; replace hx222_5 := (HB.out.cell (World.block_lt_of_cell? w _ hx222_5)).trans hx222_5; have HR222_2 := aS hi222_2; have HC222_2 := aS hl222_2; clear hi222_2 hl222_2; have HR222_5 := aS hi222_5; have HC222_5 := aS hl222_5; clear hi222_5 hl222_5; replace p222 := eq_true p222; replace q222 := eq_true q222; have p223 : 0 ≤ (x6_2 : Int) := od (by first | (with_reducible assumption) | assumption); have q223 : x6_2 < (l0_0.length : Int) := od (by first | (with_reducible assumption) | assumption); obtain ⟨ad223, A223_2, c223_2, A223_5, c223_5, e223, hx223_0, hx223_1, hx223_2, hx223_3, hx223_4, hx223_5, hl223_2, hi223_2, hl223_5, hi223_5⟩ := q1j HR0_0.out x6_2 p223 q223; obtain rfl : ad218 = ad223 := (by injection e223); replace hx223_0 := (HB.out.cell (World.block_lt_of_cell? w _ hx223_0)).trans hx223_0; replace hx223_1 := (HB.out.cell (World.block_lt_of_cell? w _ hx223_1)).trans hx223_1; replace hx223_2 := (HB.out.cell (World.block_lt_of_cell? w _ hx223_2)).trans hx223_2; replace hx223_3 := (HB.out.cell (World.block_lt_of_cell? w _ hx223_3)).trans hx223_3; replace hx223_4 := (HB.out.cell (World.block_lt_of_cell? w _ hx223_4)).trans hx223_4; replace hx223_5 := (HB.out.cell (World.block_lt_of_cell? w _ hx223_5)).trans hx223_5; have HR223_2 := aS hi223_2; have HC223_2 := aS hl223_2; clear hi223_2 hl223_2; have HR223_5 := aS hi223_5; have HC223_5 := aS hl223_5; clear hi223_5 hl223_5; replace p223 := eq_true p223; replace q223 := eq_true q223; obtain ⟨i049, hi049, _, hsz49, _⟩ := info_parts info3; obtain ⟨hcut49, hA49, hC49⟩ := print_take_of (P := Tryd.prog) (Value.int .i64) 0 31 3 .i64 Tryd.underlying31 hi049 hsz49 A223_5 c223_5 ((q05 l0_0 x6_2).f5) x7_3 (od (by first | (with_reducible assumption) | assumption)) (od (by first | (with_reducible assumption) | assumption)) HC223_5.out; have HR224 := aS (Kd.C_of_reads (h1 := fun _ => rfl) (hA49 _ (Kd.reads_of_C HR223_5.out))); have HC224 := aS hC49; clear hA49 hC49 hi049 hsz49; obtain ⟨rfl, rfl⟩ : A223_5 = _ ∧ c223_5 = _ := (by have e_ := hx223_5.symm.trans hx219_5; injection e_ with e_; injection e_ with e1_ _ e2_; exact ⟨e1_, e2_⟩); have HSL224 := aS (show (((q05 l0_0 x6_2).f5).take (x7_3 : Int).toNat).length = x7_3.toNat from (by rw [List.length_take]; have h_ : (x7_3 : Int) ≤ (((q05 l0_0 x6_2).f5).length : Int) := od (by first | (with_reducible assumption) | assumption); omega))) | (go_at_call 74; (try rw [← HSL224.out]); (with_reducible refine (q08.calls k3 _ _ (((q05 l0_0 x6_2).f5).take (x7_3 : Int).toNat) (rd ((q05 l0_0 x6_2).f5) x7_3) t225 _ ?side1 ?side2 A47.out).mono ?_); (case side1 => repeat (first | exact (Kd.C_below HR224.out (by repeat (first | (with_reducible first | exact HB.out | apply bA | apply bN | apply bD | refine bS ?_ GE212.out) | exact HB.out))) | (with_reducible refine cA ?_ _) | (with_reducible refine cN ?_ _) | (with_reducible refine cD ?_))); (case side2 => exact HC224.out); rintro e w' ⟨rfl, ⟨nd, rfl⟩⟩))
                     go_meet
                     case rel => exact ⟨_, (decide (t225 ≥ 0)), (by first | rfl | (simp; done) | simp [*]), H', ⟨by have := HK1.out; have := HK2.out; have := HK3.out; first | omega | exact Nat.le_refl _⟩, ⟨by (with_reducible repeat (first | refine kN ?_ _ | refine kD ?_ | refine kA ?_ _)); exact BK212.out⟩, ⟨by repeat (first | (with_reducible first | exact HB.out | apply bA | apply bN | apply bD | refine bS ?_ GE212.out) | exact HB.out)⟩⟩
                    ·rw [if_neg c46] at H
                     exact absurd H (by simp)
                   ·rw [if_neg c44] at H
                    have c44b0 : (((q05 l0_0 (rd ((q05 l0_0 x6_2).f5) x7_3)).f4) == x6_2) = false := beq_eq_false_iff_ne.mpr c44
                    have c44b1 : (((q05 l0_0 (rd ((q05 l0_0 x6_2).f5) x7_3)).f4) != x6_2) = true := bne_iff_ne.mpr c44
                    have H' := aS H
                    clear H
                    go_wp2_with (first | ((with_reducible refine q0l (f := 73) rfl ?_); refine q1d (some 86) rfl rfl Tryd.func73 (by kernel_rfl) rfl #[.int .i64 (rd ((q05 l0_0 x6_2).f5) x7_3), .int .i64 0, .int .i64 (wrap64 ((l0_0.length : Int) - 1))] rfl (by (try simp only [List.map_toArray, List.map_cons, List.map_nil]); first | done | rfl | (simp only [List.length_drop, List.length_take]; rfl)) ?_; (with_reducible refine (q0p.calls (rd ((q05 l0_0 x6_2).f5) x7_3) 0 (wrap64 ((l0_0.length : Int) - 1)) true _ A40.out).mono ?_); rintro e w' ⟨rfl, ⟨nd, rfl⟩⟩; refine ⟨_, rfl, ?_⟩; have hcz50_0 : wr.cell? ⟨gb212, 0, none⟩ = some (.slice (some ad218) l0_0.length c0_0) := (q02 BK212.out 0).trans rfl; have hcz50_1 : wr.cell? ⟨gb212, 1, none⟩ = some (.bool a0_1) := (q02 BK212.out 1).trans rfl; have hfz50_0 := q01 BK212.out 0; have hfz50_1 := q01 BK212.out 1; have p222 : 0 ≤ ((rd ((q05 l0_0 x6_2).f5) x7_3) : Int) := od (by first | (with_reducible assumption) | assumption); have q222 : (rd ((q05 l0_0 x6_2).f5) x7_3) < (l0_0.length : Int) := od (by first | (with_reducible assumption) | assumption); obtain ⟨ad222, A222_2, c222_2, A222_5, c222_5, e222, hx222_0, hx222_1, hx222_2, hx222_3, hx222_4, hx222_5, hl222_2, hi222_2, hl222_5, hi222_5⟩ := q1j HR0_0.out (rd ((q05 l0_0 x6_2).f5) x7_3) p222 q222; obtain rfl : ad218 = ad222 := (by injection e222); replace hx222_0 := (HB.out.cell (World.block_lt_of_cell? w _ hx222_0)).trans hx222_0; replace hx222_1 := (HB.out.cell (World.block_lt_of_cell? w _ hx222_1)).trans hx222_1; replace hx222_2 := (HB.out.cell (World.block_lt_of_cell? w _ hx222_2)).trans hx222_2; replace hx222_3 := (HB.out.cell (World.block_lt_of_cell? w _ hx222_3)).trans hx222_3; replace hx222_4 := (HB.out.cell (World.block_lt_of_cell? w _ hx222_4)).trans hx222_4; replace hx222_5 := (HB.out.cell (World.block_lt_of_cell? w _ hx222_5)).trans hx222_5; have HR222_2 := aS hi222_2; have HC222_2 := aS hl222_2; clear hi222_2 hl222_2; have HR222_5 := aS hi222_5; have HC222_5 := aS hl222_5; clear hi222_5 hl222_5; replace p222 := eq_true p222; replace q222 := eq_true q222))
                    go_meet
                    case rel => exact ⟨_, (true), (by first | rfl | (simp; done) | simp [*]), H', ⟨by have := HK1.out; have := HK2.out; have := HK3.out; first | omega | exact Nat.le_refl _⟩, ⟨by (with_reducible repeat (first | refine kN ?_ _ | refine kD ?_ | refine kA ?_ _)); exact BK212.out⟩, ⟨by repeat (first | (with_reducible first | exact HB.out | apply bA | apply bN | apply bD | refine bS ?_ GE212.out) | exact HB.out)⟩⟩
                  ·rw [if_neg c43] at H
                   exact absurd H (by simp)
                 ·rw [if_neg c42] at H
                  exact absurd H (by simp)
                ·replace c41 := Bool.eq_false_iff.mpr c41
                 subst c41
                 have H1 : (q03.j4 k3 (l0_0.length : Int) x6_2 x7_3 (rd ((q05 l0_0 x6_2).f5) x7_3) true l0_0 a0_1) = some r := by rw [if_neg (show ¬ (false = true) by decide)] at H; exact H
                 clear H
                 have H := H1
                 clear H1
                 have H' := aS H
                 clear H
                 go_wp2_with (first | ((with_reducible refine q0l (f := 73) rfl ?_); refine q1d (some 86) rfl rfl Tryd.func73 (by kernel_rfl) rfl #[.int .i64 (rd ((q05 l0_0 x6_2).f5) x7_3), .int .i64 0, .int .i64 (wrap64 ((l0_0.length : Int) - 1))] rfl (by (try simp only [List.map_toArray, List.map_cons, List.map_nil]); first | done | rfl | (simp only [List.length_drop, List.length_take]; rfl)) ?_; (with_reducible refine (q0p.calls (rd ((q05 l0_0 x6_2).f5) x7_3) 0 (wrap64 ((l0_0.length : Int) - 1)) false _ A40.out).mono ?_); rintro e w' ⟨rfl, ⟨nd, rfl⟩⟩; refine ⟨_, rfl, ?_⟩))
                 go_meet
                 case rel => exact ⟨_, (true), (by first | rfl | (simp; done) | simp [*]), H', ⟨by have := HK1.out; have := HK2.out; have := HK3.out; first | omega | exact Nat.le_refl _⟩, ⟨by (with_reducible repeat (first | refine kN ?_ _ | refine kD ?_ | refine kA ?_ _)); exact BK212.out⟩, ⟨by repeat (first | (with_reducible first | exact HB.out | apply bA | apply bN | apply bD | refine bS ?_ GE212.out) | exact HB.out)⟩⟩
               case rest =>
                clear HC38
                try clear c1
                try clear c2
                try clear c2b0
                try clear c2b1
                try clear p2
                try clear q2
                try clear hx2
                try clear c3
                try clear c4
                try clear c5
                try clear c5b0
                try clear c5b1
                try clear c5b2
                try clear p6
                try clear c7
                try clear c10
                try clear c10b0
                try clear c12
                try clear c12b0
                try clear c12b1
                try clear c13
                try clear c13b0
                try clear c14
                try clear c14b0
                try clear c15
                try clear c15b0
                try clear c15b1
                try clear c16
                try clear c16b0
                try clear c17
                try clear c20
                try clear c20b0
                try clear c21
                try clear c21b0
                try clear p21
                try clear q21
                try clear hx21
                try clear c22
                try clear c22b0
                try clear p22
                try clear q22
                try clear hx22
                try clear c24
                try clear c25
                try clear c25b0
                try clear c26
                try clear c26b0
                try clear c28
                try clear c28b0
                try clear c28b1
                try clear c33
                try clear c33b0
                try clear c34
                try clear c34b0
                try clear c35
                try clear c35b0
                try clear c36
                try clear c36b0
                try clear c37
                try clear c37b0
                try clear c41
                try clear c42
                try clear c42b0
                try clear c43
                try clear c43b0
                try clear c44
                try clear c44b0
                try clear c44b1
                try clear c45
                try clear c45b0
                try clear c46
                try clear c46b0
                try clear c46b1
                try clear hcz17_0
                try clear hcz17_1
                try clear hcz18_0
                try clear hcz18_1
                try clear hcz19_0
                try clear hcz19_1
                try clear hcz23_0
                try clear hcz23_1
                try clear hcz29_0
                try clear hcz29_1
                try clear hcz31_0
                try clear hcz31_1
                try clear hcz39_0
                try clear hcz39_1
                try clear hcz48_0
                try clear hcz48_1
                try clear hcz4_0
                try clear hcz4_1
                try clear hcz50_0
                try clear hcz50_1
                try clear hcz7_0
                try clear hcz7_1
                try clear hcz9_0
                try clear hcz9_1
                try clear hfz17_0
                try clear hfz17_1
                try clear hfz18_0
                try clear hfz18_1
                try clear hfz19_0
                try clear hfz19_1
                try clear hfz23_0
                try clear hfz23_1
                try clear hfz29_0
                try clear hfz29_1
                try clear hfz31_0
                try clear hfz31_1
                try clear hfz39_0
                try clear hfz39_1
                try clear hfz48_0
                try clear hfz48_1
                try clear hfz4_0
                try clear hfz4_1
                try clear hfz50_0
                try clear hfz50_1
                try clear hfz7_0
                try clear hfz7_1
                try clear hfz9_0
                try clear hfz9_1
                try clear hx213_0
                try clear hx213_1
                try clear hx213_2
                try clear hx213_3
                try clear hx213_4
                try clear hx213_5
                try clear hx214_0
                try clear hx214_1
                try clear hx214_2
                try clear hx214_3
                try clear hx214_4
                try clear hx214_5
                try clear hx215_0
                try clear hx215_1
                try clear hx215_2
                try clear hx215_3
                try clear hx215_4
                try clear hx215_5
                try clear hx216_0
                try clear hx216_1
                try clear hx216_2
                try clear hx216_3
                try clear hx216_4
                try clear hx216_5
                try clear hx218_0
                try clear hx218_1
                try clear hx218_2
                try clear hx218_3
                try clear hx218_4
                try clear hx218_5
                try clear hx219_0
                try clear hx219_1
                try clear hx219_2
                try clear hx219_3
                try clear hx219_4
                try clear hx219_5
                try clear hx220_0
                try clear hx222_0
                try clear hx222_1
                try clear hx222_2
                try clear hx222_3
                try clear hx222_4
                try clear hx222_5
                try clear hx223_0
                try clear hx223_1
                try clear hx223_2
                try clear hx223_3
                try clear hx223_4
                try clear hx223_5
                try clear p2
                try clear p21
                try clear p213
                try clear p214
                try clear p215
                try clear p216
                try clear p218
                try clear p219
                try clear p220
                try clear p222
                try clear p223
                try clear p6
                try clear q2
                try clear q21
                try clear q213
                try clear q214
                try clear q215
                try clear q216
                try clear q218
                try clear q219
                try clear q220
                try clear q222
                try clear q223
                obtain ⟨kq, x110_37, rfl, HA, HJ37, BK212, HB⟩ := hcut
                cases kq with
                | zero => exact absurd HA.out (by simp [q03.j4])
                | succ kj37 =>
                 have H := HA.out
                 clear HA
                 simp only [q03.j4] at H
                 by_cases c51 : x110_37 = true
                 ·subst c51
                  have H1 : (some 3) = some r := by rw [if_pos rfl] at H; exact H
                  clear H
                  have H := H1
                  clear H1
                  obtain rfl := Option.some.inj H
                  go_wp2
                  go_ret
                  exact ⟨by first | rfl | (simp [q0b, q0a] <;> rfl) | (simp [*, q0b, q0a] <;> rfl), by repeat (first | (with_reducible first | exact HB.out | apply bA | apply bN | apply bD | refine bS ?_ GE212.out) | exact HB.out)⟩
                 ·replace c51 := Bool.eq_false_iff.mpr c51
                  subst c51
                  have H1 : (if x6_2 = 0 then (if 0 ≤ (rd ((q05 l0_0 x6_2).f5) x7_3) then (if (rd ((q05 l0_0 x6_2).f5) x7_3) < (l0_0.length : Int) then (if ((q05 l0_0 (rd ((q05 l0_0 x6_2).f5) x7_3)).f0) = 3 then (some 7) else (q03.l2 kj37 (l0_0.length : Int) x6_2 (wrap64 (x7_3 + 1)) l0_0 a0_1)) else (none)) else (none)) else (q03.l2 kj37 (l0_0.length : Int) x6_2 (wrap64 (x7_3 + 1)) l0_0 a0_1)) = some r := by rw [if_neg (show ¬ (false = true) by decide)] at H; exact H
                  clear H
                  have H := H1
                  clear H1
                  by_cases c52 : x6_2 = 0
                  ·rw [if_pos c52] at H
                   have c52b0 : (x6_2 == 0) = true := beq_iff_eq.mpr c52
                   have c52b1 : (x6_2 != 0) = false := bne_eq_false_iff_eq.mpr c52
                   clear c52
                   by_cases c53 : 0 ≤ (rd ((q05 l0_0 x6_2).f5) x7_3)
                   ·rw [if_pos c53] at H
                    have c53b0 : decide (0 ≤ (rd ((q05 l0_0 x6_2).f5) x7_3)) = true := decide_eq_true c53
                    clear c53
                    by_cases c54 : (rd ((q05 l0_0 x6_2).f5) x7_3) < (l0_0.length : Int)
                    ·rw [if_pos c54] at H
                     have c54b0 : decide ((rd ((q05 l0_0 x6_2).f5) x7_3) < (l0_0.length : Int)) = true := decide_eq_true c54
                     clear c54
                     by_cases c55 : ((q05 l0_0 (rd ((q05 l0_0 x6_2).f5) x7_3)).f0) = 3
                     ·rw [if_pos c55] at H
                      have c55b0 : (((q05 l0_0 (rd ((q05 l0_0 x6_2).f5) x7_3)).f0) == 3) = true := beq_iff_eq.mpr c55
                      have c55b1 : (((q05 l0_0 (rd ((q05 l0_0 x6_2).f5) x7_3)).f0) != 3) = false := bne_eq_false_iff_eq.mpr c55
                      clear c55
                      obtain rfl := Option.some.inj H
                      have hcz56_0 : wc.cell? ⟨gb212, 0, none⟩ = some (.slice (some ad218) l0_0.length c0_0) := (q02 BK212.out 0).trans rfl
                      have hcz56_1 : wc.cell? ⟨gb212, 1, none⟩ = some (.bool a0_1) := (q02 BK212.out 1).trans rfl
                      have hfz56_0 := q01 BK212.out 0
                      have hfz56_1 := q01 BK212.out 1
                      have p226 : 0 ≤ ((rd ((q05 l0_0 x6_2).f5) x7_3) : Int) := od (by first | (with_reducible assumption) | assumption)
                      have q226 : (rd ((q05 l0_0 x6_2).f5) x7_3) < (l0_0.length : Int) := od (by first | (with_reducible assumption) | assumption)
                      obtain ⟨ad226, A226_2, c226_2, A226_5, c226_5, e226, hx226_0, hx226_1, hx226_2, hx226_3, hx226_4, hx226_5, hl226_2, hi226_2, hl226_5, hi226_5⟩ := q1j HR0_0.out (rd ((q05 l0_0 x6_2).f5) x7_3) p226 q226
                      obtain rfl : ad218 = ad226 := (by injection e226)
                      replace hx226_0 := (HB.out.cell (World.block_lt_of_cell? w _ hx226_0)).trans hx226_0
                      replace hx226_1 := (HB.out.cell (World.block_lt_of_cell? w _ hx226_1)).trans hx226_1
                      replace hx226_2 := (HB.out.cell (World.block_lt_of_cell? w _ hx226_2)).trans hx226_2
                      replace hx226_3 := (HB.out.cell (World.block_lt_of_cell? w _ hx226_3)).trans hx226_3
                      replace hx226_4 := (HB.out.cell (World.block_lt_of_cell? w _ hx226_4)).trans hx226_4
                      replace hx226_5 := (HB.out.cell (World.block_lt_of_cell? w _ hx226_5)).trans hx226_5
                      have HR226_2 := aS hi226_2
                      have HC226_2 := aS hl226_2
                      clear hi226_2 hl226_2
                      have HR226_5 := aS hi226_5
                      have HC226_5 := aS hl226_5
                      clear hi226_5 hl226_5
                      replace p226 := eq_true p226
                      replace q226 := eq_true q226
                      go_wp2
                      go_ret
                      exact ⟨by first | rfl | (simp [q0b, q0a] <;> rfl) | (simp [*, q0b, q0a] <;> rfl), by repeat (first | (with_reducible first | exact HB.out | apply bA | apply bN | apply bD | refine bS ?_ GE212.out) | exact HB.out)⟩
                     ·rw [if_neg c55] at H
                      have c55b0 : (((q05 l0_0 (rd ((q05 l0_0 x6_2).f5) x7_3)).f0) == 3) = false := beq_eq_false_iff_ne.mpr c55
                      have c55b1 : (((q05 l0_0 (rd ((q05 l0_0 x6_2).f5) x7_3)).f0) != 3) = true := bne_iff_ne.mpr c55
                      have H' := aS H
                      clear H
                      have hcz57_0 : wc.cell? ⟨gb212, 0, none⟩ = some (.slice (some ad218) l0_0.length c0_0) := (q02 BK212.out 0).trans rfl
                      have hcz57_1 : wc.cell? ⟨gb212, 1, none⟩ = some (.bool a0_1) := (q02 BK212.out 1).trans rfl
                      have hfz57_0 := q01 BK212.out 0
                      have hfz57_1 := q01 BK212.out 1
                      have p226 : 0 ≤ ((rd ((q05 l0_0 x6_2).f5) x7_3) : Int) := od (by first | (with_reducible assumption) | assumption)
                      have q226 : (rd ((q05 l0_0 x6_2).f5) x7_3) < (l0_0.length : Int) := od (by first | (with_reducible assumption) | assumption)
                      obtain ⟨ad226, A226_2, c226_2, A226_5, c226_5, e226, hx226_0, hx226_1, hx226_2, hx226_3, hx226_4, hx226_5, hl226_2, hi226_2, hl226_5, hi226_5⟩ := q1j HR0_0.out (rd ((q05 l0_0 x6_2).f5) x7_3) p226 q226
                      obtain rfl : ad218 = ad226 := (by injection e226)
                      replace hx226_0 := (HB.out.cell (World.block_lt_of_cell? w _ hx226_0)).trans hx226_0
                      replace hx226_1 := (HB.out.cell (World.block_lt_of_cell? w _ hx226_1)).trans hx226_1
                      replace hx226_2 := (HB.out.cell (World.block_lt_of_cell? w _ hx226_2)).trans hx226_2
                      replace hx226_3 := (HB.out.cell (World.block_lt_of_cell? w _ hx226_3)).trans hx226_3
                      replace hx226_4 := (HB.out.cell (World.block_lt_of_cell? w _ hx226_4)).trans hx226_4
                      replace hx226_5 := (HB.out.cell (World.block_lt_of_cell? w _ hx226_5)).trans hx226_5
                      have HR226_2 := aS hi226_2
                      have HC226_2 := aS hl226_2
                      clear hi226_2 hl226_2
                      have HR226_5 := aS hi226_5
                      have HC226_5 := aS hl226_5
                      clear hi226_5 hl226_5
                      replace p226 := eq_true p226
                      replace q226 := eq_true q226
                      go_wp2
                      go_roundg kj37
                      case measure => have := HK1.out; have := HK2.out; have := HK3.out; have := HJ37.out; omega
                      case rel => exact ⟨(wrap64 (x7_3 + 1)), (by first | rfl | (simp; done) | simp [*]), H', ⟨by have := HK1.out; have := HK2.out; have := HK3.out; have := HJ37.out; omega⟩, ⟨by (with_reducible repeat (first | refine kN ?_ _ | refine kD ?_ | refine kA ?_ _)); exact BK212.out⟩, ⟨by repeat (first | (with_reducible first | exact HB.out | apply bA | apply bN | apply bD | refine bS ?_ GE212.out) | exact HB.out)⟩⟩
                    ·rw [if_neg c54] at H
                     exact absurd H (by simp)
                   ·rw [if_neg c53] at H
                    exact absurd H (by simp)
                  ·rw [if_neg c52] at H
                   have c52b0 : (x6_2 == 0) = false := beq_eq_false_iff_ne.mpr c52
                   have c52b1 : (x6_2 != 0) = true := bne_iff_ne.mpr c52
                   have H' := aS H
                   clear H
                   go_wp2
                   go_roundg kj37
                   case measure => have := HK1.out; have := HK2.out; have := HK3.out; have := HJ37.out; omega
                   case rel => exact ⟨(wrap64 (x7_3 + 1)), (by first | rfl | (simp; done) | simp [*]), H', ⟨by have := HK1.out; have := HK2.out; have := HK3.out; have := HJ37.out; omega⟩, ⟨by (with_reducible repeat (first | refine kN ?_ _ | refine kD ?_ | refine kA ?_ _)); exact BK212.out⟩, ⟨by repeat (first | (with_reducible first | exact HB.out | apply bA | apply bN | apply bD | refine bS ?_ GE212.out) | exact HB.out)⟩⟩
              ·rw [if_neg c37] at H
               exact absurd H (by simp)
             ·rw [if_neg c36] at H
              have c36b0 : decide (x7_3 < (((q05 l0_0 x6_2).f5).length : Int)) = false := decide_eq_false c36
              clear c36
              have H' := aS H
              clear H
              have hcz58_0 : wr.cell? ⟨gb212, 0, none⟩ = some (.slice A0_0 l0_0.length c0_0) := (q02 BK212.out 0).trans rfl
              have hcz58_1 : wr.cell? ⟨gb212, 1, none⟩ = some (.bool a0_1) := (q02 BK212.out 1).trans rfl
              have hfz58_0 := q01 BK212.out 0
              have hfz58_1 := q01 BK212.out 1
              have p218 : 0 ≤ (x6_2 : Int) := od (by first | (with_reducible assumption) | assumption)
              have q218 : x6_2 < (l0_0.length : Int) := od (by first | (with_reducible assumption) | assumption)
              obtain ⟨ad218, A218_2, c218_2, A218_5, c218_5, e218, hx218_0, hx218_1, hx218_2, hx218_3, hx218_4, hx218_5, hl218_2, hi218_2, hl218_5, hi218_5⟩ := q1j HR0_0.out x6_2 p218 q218
              cases e218
              replace hx218_0 := (HB.out.cell (World.block_lt_of_cell? w _ hx218_0)).trans hx218_0
              replace hx218_1 := (HB.out.cell (World.block_lt_of_cell? w _ hx218_1)).trans hx218_1
              replace hx218_2 := (HB.out.cell (World.block_lt_of_cell? w _ hx218_2)).trans hx218_2
              replace hx218_3 := (HB.out.cell (World.block_lt_of_cell? w _ hx218_3)).trans hx218_3
              replace hx218_4 := (HB.out.cell (World.block_lt_of_cell? w _ hx218_4)).trans hx218_4
              replace hx218_5 := (HB.out.cell (World.block_lt_of_cell? w _ hx218_5)).trans hx218_5
              have HR218_2 := aS hi218_2
              have HC218_2 := aS hl218_2
              clear hi218_2 hl218_2
              have HR218_5 := aS hi218_5
              have HC218_5 := aS hl218_5
              clear hi218_5 hl218_5
              replace p218 := eq_true p218
              replace q218 := eq_true q218
              go_wp2
              go_roundg k3
              case measure => have := HK1.out; have := HK2.out; have := HK3.out; omega
              case rel => exact ⟨(wrap64 (x6_2 + 1)), (by first | rfl | (simp; done) | simp [*]), H', ⟨by have := HK1.out; have := HK2.out; have := HK3.out; omega⟩, ⟨by (with_reducible repeat (first | refine kN ?_ _ | refine kD ?_ | refine kA ?_ _)); exact BK212.out⟩, ⟨by repeat (first | (with_reducible first | exact HB.out | apply bA | apply bN | apply bD | refine bS ?_ GE212.out) | exact HB.out)⟩⟩
            ·rw [if_neg c35] at H
             exact absurd H (by simp)
           ·rw [if_neg c34] at H
            exact absurd H (by simp)
        ·rw [if_neg c33] at H
         have c33b0 : decide (x6_2 < (l0_0.length : Int)) = false := decide_eq_false c33
         clear c33
         have H' := aS H
         clear H
         go_wp2
         go_loopg [9] k2 (fun kq v9 w' => ∃ (x9_3 : Int), v9 = .int .i64 x9_3 ∧ Aside0 (q03.l3 kq (l0_0.length : Int) x9_3 l0_0 a0_1 = some r) ∧ Aside0 (kq ≤ k2) ∧ Aside0 (w'.heap[gb212]? = some (.cells #[(.slice A0_0 l0_0.length c0_0), .bool a0_1] 24 (0, 0))) ∧ Aside0 (Below w.heap.size w w'))
         case atStart => exact ⟨(0), (by first | rfl | (simp; done) | simp [*]), H', ⟨Nat.le_refl _⟩, ⟨by (with_reducible repeat (first | refine kN ?_ _ | refine kD ?_ | refine kA ?_ _)); exact BK212.out⟩, ⟨by repeat (first | (with_reducible first | exact HB.out | apply bA | apply bN | apply bD | refine bS ?_ GE212.out) | exact HB.out)⟩⟩
         case round =>
          clear H'
          try clear c1
          try clear c2
          try clear c2b0
          try clear c2b1
          try clear p2
          try clear q2
          try clear hx2
          try clear c3
          try clear c4
          try clear c5
          try clear c5b0
          try clear c5b1
          try clear c5b2
          try clear p6
          try clear c7
          try clear c10
          try clear c10b0
          try clear c12
          try clear c12b0
          try clear c12b1
          try clear c13
          try clear c13b0
          try clear c14
          try clear c14b0
          try clear c15
          try clear c15b0
          try clear c15b1
          try clear c16
          try clear c16b0
          try clear c17
          try clear c20
          try clear c20b0
          try clear c21
          try clear c21b0
          try clear p21
          try clear q21
          try clear hx21
          try clear c22
          try clear c22b0
          try clear p22
          try clear q22
          try clear hx22
          try clear c24
          try clear c25
          try clear c25b0
          try clear c26
          try clear c26b0
          try clear c28
          try clear c28b0
          try clear c28b1
          try clear c33
          try clear c33b0
          try clear c34
          try clear c34b0
          try clear c35
          try clear c35b0
          try clear c36
          try clear c36b0
          try clear c37
          try clear c37b0
          try clear c41
          try clear c42
          try clear c42b0
          try clear c43
          try clear c43b0
          try clear c44
          try clear c44b0
          try clear c44b1
          try clear c45
          try clear c45b0
          try clear c46
          try clear c46b0
          try clear c46b1
          try clear c51
          try clear c52
          try clear c52b0
          try clear c52b1
          try clear c53
          try clear c53b0
          try clear c54
          try clear c54b0
          try clear c55
          try clear c55b0
          try clear c55b1
          try clear hcz17_0
          try clear hcz17_1
          try clear hcz18_0
          try clear hcz18_1
          try clear hcz19_0
          try clear hcz19_1
          try clear hcz23_0
          try clear hcz23_1
          try clear hcz29_0
          try clear hcz29_1
          try clear hcz31_0
          try clear hcz31_1
          try clear hcz39_0
          try clear hcz39_1
          try clear hcz48_0
          try clear hcz48_1
          try clear hcz4_0
          try clear hcz4_1
          try clear hcz50_0
          try clear hcz50_1
          try clear hcz56_0
          try clear hcz56_1
          try clear hcz57_0
          try clear hcz57_1
          try clear hcz58_0
          try clear hcz58_1
          try clear hcz7_0
          try clear hcz7_1
          try clear hcz9_0
          try clear hcz9_1
          try clear hfz17_0
          try clear hfz17_1
          try clear hfz18_0
          try clear hfz18_1
          try clear hfz19_0
          try clear hfz19_1
          try clear hfz23_0
          try clear hfz23_1
          try clear hfz29_0
          try clear hfz29_1
          try clear hfz31_0
          try clear hfz31_1
          try clear hfz39_0
          try clear hfz39_1
          try clear hfz48_0
          try clear hfz48_1
          try clear hfz4_0
          try clear hfz4_1
          try clear hfz50_0
          try clear hfz50_1
          try clear hfz56_0
          try clear hfz56_1
          try clear hfz57_0
          try clear hfz57_1
          try clear hfz58_0
          try clear hfz58_1
          try clear hfz7_0
          try clear hfz7_1
          try clear hfz9_0
          try clear hfz9_1
          try clear hx213_0
          try clear hx213_1
          try clear hx213_2
          try clear hx213_3
          try clear hx213_4
          try clear hx213_5
          try clear hx214_0
          try clear hx214_1
          try clear hx214_2
          try clear hx214_3
          try clear hx214_4
          try clear hx214_5
          try clear hx215_0
          try clear hx215_1
          try clear hx215_2
          try clear hx215_3
          try clear hx215_4
          try clear hx215_5
          try clear hx216_0
          try clear hx216_1
          try clear hx216_2
          try clear hx216_3
          try clear hx216_4
          try clear hx216_5
          try clear hx218_0
          try clear hx218_1
          try clear hx218_2
          try clear hx218_3
          try clear hx218_4
          try clear hx218_5
          try clear hx219_0
          try clear hx219_1
          try clear hx219_2
          try clear hx219_3
          try clear hx219_4
          try clear hx219_5
          try clear hx220_0
          try clear hx222_0
          try clear hx222_1
          try clear hx222_2
          try clear hx222_3
          try clear hx222_4
          try clear hx222_5
          try clear hx223_0
          try clear hx223_1
          try clear hx223_2
          try clear hx223_3
          try clear hx223_4
          try clear hx223_5
          try clear hx226_0
          try clear hx226_1
          try clear hx226_2
          try clear hx226_3
          try clear hx226_4
          try clear hx226_5
          try clear p2
          try clear p21
          try clear p213
          try clear p214
          try clear p215
          try clear p216
          try clear p218
          try clear p219
          try clear p22
          try clear p220
          try clear p222
          try clear p223
          try clear p226
          try clear p6
          try clear q2
          try clear q21
          try clear q213
          try clear q214
          try clear q215
          try clear q216
          try clear q218
          try clear q219
          try clear q22
          try clear q220
          try clear q222
          try clear q223
          try clear q226
          obtain ⟨x9_3, rfl, HA, HK3, BK212, HB⟩ := hrel
          cases gk with
          | zero => exact absurd HA.out (by simp [q03.l3])
          | succ k3 =>
           have H := HA.out
           clear HA
           simp only [q03.l3] at H
           by_cases c59 : x9_3 < (l0_0.length : Int)
           ·rw [if_pos c59] at H
            have c59b0 : decide (x9_3 < (l0_0.length : Int)) = true := decide_eq_true c59
            clear c59
            by_cases c60 : 0 ≤ x9_3
            ·rw [if_pos c60] at H
             have c60b0 : decide (0 ≤ x9_3) = true := decide_eq_true c60
             clear c60
             by_cases c61 : x9_3 < (l0_0.length : Int)
             ·rw [if_pos c61] at H
              have c61b0 : decide (x9_3 < (l0_0.length : Int)) = true := decide_eq_true c61
              clear c61
              by_cases c62 : ((q05 l0_0 x9_3).f4) = (-1)
              ·rw [if_pos c62] at H
               have c62b0 : (((q05 l0_0 x9_3).f4) == (-1)) = true := beq_iff_eq.mpr c62
               have c62b1 : (((q05 l0_0 x9_3).f4) != (-1)) = false := bne_eq_false_iff_eq.mpr c62
               clear c62
               have H' := aS H
               clear H
               have hcz63_0 : wr.cell? ⟨gb212, 0, none⟩ = some (.slice A0_0 l0_0.length c0_0) := (q02 BK212.out 0).trans rfl
               have hcz63_1 : wr.cell? ⟨gb212, 1, none⟩ = some (.bool a0_1) := (q02 BK212.out 1).trans rfl
               have hfz63_0 := q01 BK212.out 0
               have hfz63_1 := q01 BK212.out 1
               have p227 : 0 ≤ (x9_3 : Int) := od (by first | (with_reducible assumption) | assumption)
               have q227 : x9_3 < (l0_0.length : Int) := od (by first | (with_reducible assumption) | assumption)
               obtain ⟨ad227, A227_2, c227_2, A227_5, c227_5, e227, hx227_0, hx227_1, hx227_2, hx227_3, hx227_4, hx227_5, hl227_2, hi227_2, hl227_5, hi227_5⟩ := q1j HR0_0.out x9_3 p227 q227
               cases e227
               replace hx227_0 := (HB.out.cell (World.block_lt_of_cell? w _ hx227_0)).trans hx227_0
               replace hx227_1 := (HB.out.cell (World.block_lt_of_cell? w _ hx227_1)).trans hx227_1
               replace hx227_2 := (HB.out.cell (World.block_lt_of_cell? w _ hx227_2)).trans hx227_2
               replace hx227_3 := (HB.out.cell (World.block_lt_of_cell? w _ hx227_3)).trans hx227_3
               replace hx227_4 := (HB.out.cell (World.block_lt_of_cell? w _ hx227_4)).trans hx227_4
               replace hx227_5 := (HB.out.cell (World.block_lt_of_cell? w _ hx227_5)).trans hx227_5
               have HR227_2 := aS hi227_2
               have HC227_2 := aS hl227_2
               clear hi227_2 hl227_2
               have HR227_5 := aS hi227_5
               have HC227_5 := aS hl227_5
               clear hi227_5 hl227_5
               replace p227 := eq_true p227
               replace q227 := eq_true q227
               go_wp2
               go_roundg k3
               case measure => have := HK1.out; have := HK2.out; have := HK3.out; omega
               case rel => exact ⟨(wrap64 (x9_3 + 1)), (by first | rfl | (simp; done) | simp [*]), H', ⟨by have := HK1.out; have := HK2.out; have := HK3.out; omega⟩, ⟨by (with_reducible repeat (first | refine kN ?_ _ | refine kD ?_ | refine kA ?_ _)); exact BK212.out⟩, ⟨by repeat (first | (with_reducible first | exact HB.out | apply bA | apply bN | apply bD | refine bS ?_ GE212.out) | exact HB.out)⟩⟩
              ·rw [if_neg c62] at H
               have c62b0 : (((q05 l0_0 x9_3).f4) == (-1)) = false := beq_eq_false_iff_ne.mpr c62
               have c62b1 : (((q05 l0_0 x9_3).f4) != (-1)) = true := bne_iff_ne.mpr c62
               replace H := Option.bind_eq_some_iff.mp H
               obtain ⟨t228, A640, H⟩ := H
               replace H : (if t228 = true then (if 0 ≤ ((q05 l0_0 x9_3).f4) then (if ((q05 l0_0 x9_3).f4) < (l0_0.length : Int) then ((q08.f k3 ((q05 l0_0 ((q05 l0_0 x9_3).f4)).f5) x9_3).bind fun t230 => (if t230 < 0 then (some 3) else (q03.l3 k3 (l0_0.length : Int) (wrap64 (x9_3 + 1)) l0_0 a0_1))) else (none)) else (none)) else (some 3)) = some r := H
               have A64 := aS A640
               clear A640
               by_cases c65 : t228 = true
               ·subst c65
                have H1 : (if 0 ≤ ((q05 l0_0 x9_3).f4) then (if ((q05 l0_0 x9_3).f4) < (l0_0.length : Int) then ((q08.f k3 ((q05 l0_0 ((q05 l0_0 x9_3).f4)).f5) x9_3).bind fun t230 => (if t230 < 0 then (some 3) else (q03.l3 k3 (l0_0.length : Int) (wrap64 (x9_3 + 1)) l0_0 a0_1))) else (none)) else (none)) = some r := by rw [if_pos rfl] at H; exact H
                clear H
                have H := H1
                clear H1
                by_cases c66 : 0 ≤ ((q05 l0_0 x9_3).f4)
                ·rw [if_pos c66] at H
                 have c66b0 : decide (0 ≤ ((q05 l0_0 x9_3).f4)) = true := decide_eq_true c66
                 clear c66
                 by_cases c67 : ((q05 l0_0 x9_3).f4) < (l0_0.length : Int)
                 ·rw [if_pos c67] at H
                  have c67b0 : decide (((q05 l0_0 x9_3).f4) < (l0_0.length : Int)) = true := decide_eq_true c67
                  clear c67
                  replace H := Option.bind_eq_some_iff.mp H
                  obtain ⟨t230, A680, H⟩ := H
                  replace H : (if t230 < 0 then (some 3) else (q03.l3 k3 (l0_0.length : Int) (wrap64 (x9_3 + 1)) l0_0 a0_1)) = some r := H
                  have A68 := aS A680
                  clear A680
                  by_cases c69 : t230 < 0
                  ·rw [if_pos c69] at H
                   have c69b0 : decide (t230 < 0) = true := decide_eq_true c69
                   clear c69
                   obtain rfl := Option.some.inj H
                   have hcz70_0 : wr.cell? ⟨gb212, 0, none⟩ = some (.slice A0_0 l0_0.length c0_0) := (q02 BK212.out 0).trans rfl
                   have hcz70_1 : wr.cell? ⟨gb212, 1, none⟩ = some (.bool a0_1) := (q02 BK212.out 1).trans rfl
                   have hfz70_0 := q01 BK212.out 0
                   have hfz70_1 := q01 BK212.out 1
                   have p227 : 0 ≤ (x9_3 : Int) := od (by first | (with_reducible assumption) | assumption)
                   have q227 : x9_3 < (l0_0.length : Int) := od (by first | (with_reducible assumption) | assumption)
                   obtain ⟨ad227, A227_2, c227_2, A227_5, c227_5, e227, hx227_0, hx227_1, hx227_2, hx227_3, hx227_4, hx227_5, hl227_2, hi227_2, hl227_5, hi227_5⟩ := q1j HR0_0.out x9_3 p227 q227
                   cases e227
                   replace hx227_0 := (HB.out.cell (World.block_lt_of_cell? w _ hx227_0)).trans hx227_0
                   replace hx227_1 := (HB.out.cell (World.block_lt_of_cell? w _ hx227_1)).trans hx227_1
                   replace hx227_2 := (HB.out.cell (World.block_lt_of_cell? w _ hx227_2)).trans hx227_2
                   replace hx227_3 := (HB.out.cell (World.block_lt_of_cell? w _ hx227_3)).trans hx227_3
                   replace hx227_4 := (HB.out.cell (World.block_lt_of_cell? w _ hx227_4)).trans hx227_4
                   replace hx227_5 := (HB.out.cell (World.block_lt_of_cell? w _ hx227_5)).trans hx227_5
                   have HR227_2 := aS hi227_2
                   have HC227_2 := aS hl227_2
                   clear hi227_2 hl227_2
                   have HR227_5 := aS hi227_5
                   have HC227_5 := aS hl227_5
                   clear hi227_5 hl227_5
                   replace p227 := eq_true p227
                   replace q227 := eq_true q227
                   go_wp2_with (first | (go_at_call 73; (with_reducible refine (q0p.calls ((q05 l0_0 x9_3).f4) 0 (wrap64 ((l0_0.length : Int) - 1)) true _ A64.out).mono ?_); rintro e w' ⟨rfl, ⟨nd, rfl⟩⟩; have p229 : 0 ≤ (((q05 l0_0 x9_3).f4) : Int) := od (by first | (with_reducible assumption) | assumption); have q229 : ((q05 l0_0 x9_3).f4) < (l0_0.length : Int) := od (by first | (with_reducible assumption) | assumption); obtain ⟨ad229, A229_2, c229_2, A229_5, c229_5, e229, hx229_0, hx229_1, hx229_2, hx229_3, hx229_4, hx229_5, hl229_2, hi229_2, hl229_5, hi229_5⟩ := q1j HR0_0.out ((q05 l0_0 x9_3).f4) p229 q229; obtain rfl : ad227 = ad229 := (by injection e229); replace hx229_0 := (HB.out.cell (World.block_lt_of_cell? w _ hx229_0)).trans hx229_0; replace hx229_1 := (HB.out.cell (World.block_lt_of_cell? w _ hx229_1)).trans hx229_1; replace hx229_2 := (HB.out.cell (World.block_lt_of_cell? w _ hx229_2)).trans hx229_2; replace hx229_3 := (HB.out.cell (World.block_lt_of_cell? w _ hx229_3)).trans hx229_3; replace hx229_4 := (HB.out.cell (World.block_lt_of_cell? w _ hx229_4)).trans hx229_4; replace hx229_5 := (HB.out.cell (World.block_lt_of_cell? w _ hx229_5)).trans hx229_5; have HR229_2 := aS hi229_2; have HC229_2 := aS hl229_2; clear hi229_2 hl229_2; have HR229_5 := aS hi229_5; have HC229_5 := aS hl229_5; clear hi229_5 hl229_5; replace p229 := eq_true p229; replace q229 := eq_true q229) | (go_at_call 74; (with_reducible refine (q08.calls k3 _ _ ((q05 l0_0 ((q05 l0_0 x9_3).f4)).f5) x9_3 t230 _ ?side1 ?side2 A68.out).mono ?_); (case side1 => repeat (first | exact (Kd.C_below HR229_5.out (by repeat (first | (with_reducible first | exact HB.out | apply bA | apply bN | apply bD | refine bS ?_ GE212.out) | exact HB.out))) | (with_reducible refine cA ?_ _) | (with_reducible refine cN ?_ _) | (with_reducible refine cD ?_))); (case side2 => exact HC229_5.out); rintro e w' ⟨rfl, ⟨nd, rfl⟩⟩))
                   go_ret
                   exact ⟨by first | rfl | (simp [q0b, q0a] <;> rfl) | (simp [*, q0b, q0a] <;> rfl), by repeat (first | (with_reducible first | exact HB.out | apply bA | apply bN | apply bD | refine bS ?_ GE212.out) | exact HB.out)⟩
                  ·rw [if_neg c69] at H
                   have c69b0 : decide (t230 < 0) = false := decide_eq_false c69
                   clear c69
                   have H' := aS H
                   clear H
                   have hcz71_0 : wr.cell? ⟨gb212, 0, none⟩ = some (.slice A0_0 l0_0.length c0_0) := (q02 BK212.out 0).trans rfl
                   have hcz71_1 : wr.cell? ⟨gb212, 1, none⟩ = some (.bool a0_1) := (q02 BK212.out 1).trans rfl
                   have hfz71_0 := q01 BK212.out 0
                   have hfz71_1 := q01 BK212.out 1
                   have p227 : 0 ≤ (x9_3 : Int) := od (by first | (with_reducible assumption) | assumption)
                   have q227 : x9_3 < (l0_0.length : Int) := od (by first | (with_reducible assumption) | assumption)
                   obtain ⟨ad227, A227_2, c227_2, A227_5, c227_5, e227, hx227_0, hx227_1, hx227_2, hx227_3, hx227_4, hx227_5, hl227_2, hi227_2, hl227_5, hi227_5⟩ := q1j HR0_0.out x9_3 p227 q227
                   cases e227
                   replace hx227_0 := (HB.out.cell (World.block_lt_of_cell? w _ hx227_0)).trans hx227_0
                   replace hx227_1 := (HB.out.cell (World.block_lt_of_cell? w _ hx227_1)).trans hx227_1
                   replace hx227_2 := (HB.out.cell (World.block_lt_of_cell? w _ hx227_2)).trans hx227_2
                   replace hx227_3 := (HB.out.cell (World.block_lt_of_cell? w _ hx227_3)).trans hx227_3
                   replace hx227_4 := (HB.out.cell (World.block_lt_of_cell? w _ hx227_4)).trans hx227_4
                   replace hx227_5 := (HB.out.cell (World.block_lt_of_cell? w _ hx227_5)).trans hx227_5
                   have HR227_2 := aS hi227_2
                   have HC227_2 := aS hl227_2
                   clear hi227_2 hl227_2
                   have HR227_5 := aS hi227_5
                   have HC227_5 := aS hl227_5
                   clear hi227_5 hl227_5
                   replace p227 := eq_true p227
                   replace q227 := eq_true q227
                   go_wp2_with (first | (go_at_call 73; (with_reducible refine (q0p.calls ((q05 l0_0 x9_3).f4) 0 (wrap64 ((l0_0.length : Int) - 1)) true _ A64.out).mono ?_); rintro e w' ⟨rfl, ⟨nd, rfl⟩⟩; have p229 : 0 ≤ (((q05 l0_0 x9_3).f4) : Int) := od (by first | (with_reducible assumption) | assumption); have q229 : ((q05 l0_0 x9_3).f4) < (l0_0.length : Int) := od (by first | (with_reducible assumption) | assumption); obtain ⟨ad229, A229_2, c229_2, A229_5, c229_5, e229, hx229_0, hx229_1, hx229_2, hx229_3, hx229_4, hx229_5, hl229_2, hi229_2, hl229_5, hi229_5⟩ := q1j HR0_0.out ((q05 l0_0 x9_3).f4) p229 q229; obtain rfl : ad227 = ad229 := (by injection e229); replace hx229_0 := (HB.out.cell (World.block_lt_of_cell? w _ hx229_0)).trans hx229_0; replace hx229_1 := (HB.out.cell (World.block_lt_of_cell? w _ hx229_1)).trans hx229_1; replace hx229_2 := (HB.out.cell (World.block_lt_of_cell? w _ hx229_2)).trans hx229_2; replace hx229_3 := (HB.out.cell (World.block_lt_of_cell? w _ hx229_3)).trans hx229_3; replace hx229_4 := (HB.out.cell (World.block_lt_of_cell? w _ hx229_4)).trans hx229_4; replace hx229_5 := (HB.out.cell (World.block_lt_of_cell? w _ hx229_5)).trans hx229_5; have HR229_2 := aS hi229_2; have HC229_2 := aS hl229_2; clear hi229_2 hl229_2; have HR229_5 := aS hi229_5; have HC229_5 := aS hl229_5; clear hi229_5 hl229_5; replace p229 := eq_true p229; replace q229 := eq_true q229) | (go_at_call 74; (with_reducible refine (q08.calls k3 _ _ ((q05 l0_0 ((q05 l0_0 x9_3).f4)).f5) x9_3 t230 _ ?side1 ?side2 A68.out).mono ?_); (case side1 => repeat (first | exact (Kd.C_below HR229_5.out (by repeat (first | (with_reducible first | exact HB.out | apply bA | apply bN | apply bD | refine bS ?_ GE212.out) | exact HB.out))) | (with_reducible refine cA ?_ _) | (with_reducible refine cN ?_ _) | (with_reducible refine cD ?_))); (case side2 => exact HC229_5.out); rintro e w' ⟨rfl, ⟨nd, rfl⟩⟩))
                   go_roundg k3
                   case measure => have := HK1.out; have := HK2.out; have := HK3.out; omega
                   case rel => exact ⟨(wrap64 (x9_3 + 1)), (by first | rfl | (simp; done) | simp [*]), H', ⟨by have := HK1.out; have := HK2.out; have := HK3.out; omega⟩, ⟨by (with_reducible repeat (first | refine kN ?_ _ | refine kD ?_ | refine kA ?_ _)); exact BK212.out⟩, ⟨by repeat (first | (with_reducible first | exact HB.out | apply bA | apply bN | apply bD | refine bS ?_ GE212.out) | exact HB.out)⟩⟩
                 ·rw [if_neg c67] at H
                  exact absurd H (by simp)
                ·rw [if_neg c66] at H
                 exact absurd H (by simp)
               ·replace c65 := Bool.eq_false_iff.mpr c65
                subst c65
                have H1 : (some 3) = some r := by rw [if_neg (show ¬ (false = true) by decide)] at H; exact H
                clear H
                have H := H1
                clear H1
                obtain rfl := Option.some.inj H
                have hcz72_0 : wr.cell? ⟨gb212, 0, none⟩ = some (.slice A0_0 l0_0.length c0_0) := (q02 BK212.out 0).trans rfl
                have hcz72_1 : wr.cell? ⟨gb212, 1, none⟩ = some (.bool a0_1) := (q02 BK212.out 1).trans rfl
                have hfz72_0 := q01 BK212.out 0
                have hfz72_1 := q01 BK212.out 1
                have p227 : 0 ≤ (x9_3 : Int) := od (by first | (with_reducible assumption) | assumption)
                have q227 : x9_3 < (l0_0.length : Int) := od (by first | (with_reducible assumption) | assumption)
                obtain ⟨ad227, A227_2, c227_2, A227_5, c227_5, e227, hx227_0, hx227_1, hx227_2, hx227_3, hx227_4, hx227_5, hl227_2, hi227_2, hl227_5, hi227_5⟩ := q1j HR0_0.out x9_3 p227 q227
                cases e227
                replace hx227_0 := (HB.out.cell (World.block_lt_of_cell? w _ hx227_0)).trans hx227_0
                replace hx227_1 := (HB.out.cell (World.block_lt_of_cell? w _ hx227_1)).trans hx227_1
                replace hx227_2 := (HB.out.cell (World.block_lt_of_cell? w _ hx227_2)).trans hx227_2
                replace hx227_3 := (HB.out.cell (World.block_lt_of_cell? w _ hx227_3)).trans hx227_3
                replace hx227_4 := (HB.out.cell (World.block_lt_of_cell? w _ hx227_4)).trans hx227_4
                replace hx227_5 := (HB.out.cell (World.block_lt_of_cell? w _ hx227_5)).trans hx227_5
                have HR227_2 := aS hi227_2
                have HC227_2 := aS hl227_2
                clear hi227_2 hl227_2
                have HR227_5 := aS hi227_5
                have HC227_5 := aS hl227_5
                clear hi227_5 hl227_5
                replace p227 := eq_true p227
                replace q227 := eq_true q227
                go_wp2_with (first | (go_at_call 73; (with_reducible refine (q0p.calls ((q05 l0_0 x9_3).f4) 0 (wrap64 ((l0_0.length : Int) - 1)) false _ A64.out).mono ?_); rintro e w' ⟨rfl, ⟨nd, rfl⟩⟩))
                go_ret
                exact ⟨by first | rfl | (simp [q0b, q0a] <;> rfl) | (simp [*, q0b, q0a] <;> rfl), by repeat (first | (with_reducible first | exact HB.out | apply bA | apply bN | apply bD | refine bS ?_ GE212.out) | exact HB.out)⟩
             ·rw [if_neg c61] at H
              exact absurd H (by simp)
            ·rw [if_neg c60] at H
             exact absurd H (by simp)
           ·rw [if_neg c59] at H
            have c59b0 : decide (x9_3 < (l0_0.length : Int)) = false := decide_eq_false c59
            clear c59
            by_cases c73 : 0 < (l0_0.length : Int)
            ·rw [if_pos c73] at H
             have c73b0 : decide (0 < (l0_0.length : Int)) = true := decide_eq_true c73
             have c73b1 : decide (0 < l0_0.length) = true := decide_eq_true (by omega)
             clear c73
             by_cases c74 : ((q05 l0_0 0).f4) = (-1)
             ·rw [if_pos c74] at H
              have c74b0 : (((q05 l0_0 0).f4) == (-1)) = true := beq_iff_eq.mpr c74
              have c74b1 : (((q05 l0_0 0).f4) != (-1)) = false := bne_eq_false_iff_eq.mpr c74
              clear c74
              have H' := aS H
              clear H
              have hcz75_0 : wr.cell? ⟨gb212, 0, none⟩ = some (.slice A0_0 l0_0.length c0_0) := (q02 BK212.out 0).trans rfl
              have hcz75_1 : wr.cell? ⟨gb212, 1, none⟩ = some (.bool a0_1) := (q02 BK212.out 1).trans rfl
              have hfz75_0 := q01 BK212.out 0
              have hfz75_1 := q01 BK212.out 1
              have p231 : 0 ≤ (0 : Int) := (by omega)
              have q231 : 0 < (l0_0.length : Int) := od (by first | (with_reducible assumption) | assumption)
              obtain ⟨ad231, A231_2, c231_2, A231_5, c231_5, e231, hx231_0, hx231_1, hx231_2, hx231_3, hx231_4, hx231_5, hl231_2, hi231_2, hl231_5, hi231_5⟩ := q1j HR0_0.out 0 p231 q231
              cases e231
              have qi231 : (0 < l0_0.length) = True := eq_true (by omega)
              (try rw [show ((0 : Int)).toNat = 0 from rfl] at hx231_0)
              (try rw [show 0 * 6 = 0 from rfl] at hx231_0)
              (try rw [Addr.add_zero'] at hx231_0)
              (try rw [show ((0 : Int)).toNat = 0 from rfl] at hx231_1)
              (try rw [show 0 * 6 = 0 from rfl] at hx231_1)
              (try rw [Addr.add_zero'] at hx231_1)
              (try rw [show ((0 : Int)).toNat = 0 from rfl] at hx231_2)
              (try rw [show 0 * 6 = 0 from rfl] at hx231_2)
              (try rw [Addr.add_zero'] at hx231_2)
              (try rw [show ((0 : Int)).toNat = 0 from rfl] at hx231_3)
              (try rw [show 0 * 6 = 0 from rfl] at hx231_3)
              (try rw [Addr.add_zero'] at hx231_3)
              (try rw [show ((0 : Int)).toNat = 0 from rfl] at hx231_4)
              (try rw [show 0 * 6 = 0 from rfl] at hx231_4)
              (try rw [Addr.add_zero'] at hx231_4)
              (try rw [show ((0 : Int)).toNat = 0 from rfl] at hx231_5)
              (try rw [show 0 * 6 = 0 from rfl] at hx231_5)
              (try rw [Addr.add_zero'] at hx231_5)
              replace hx231_0 := (HB.out.cell (World.block_lt_of_cell? w _ hx231_0)).trans hx231_0
              replace hx231_1 := (HB.out.cell (World.block_lt_of_cell? w _ hx231_1)).trans hx231_1
              replace hx231_2 := (HB.out.cell (World.block_lt_of_cell? w _ hx231_2)).trans hx231_2
              replace hx231_3 := (HB.out.cell (World.block_lt_of_cell? w _ hx231_3)).trans hx231_3
              replace hx231_4 := (HB.out.cell (World.block_lt_of_cell? w _ hx231_4)).trans hx231_4
              replace hx231_5 := (HB.out.cell (World.block_lt_of_cell? w _ hx231_5)).trans hx231_5
              have HR231_2 := aS hi231_2
              have HC231_2 := aS hl231_2
              clear hi231_2 hl231_2
              have HR231_5 := aS hi231_5
              have HC231_5 := aS hl231_5
              clear hi231_5 hl231_5
              replace p231 := eq_true p231
              replace q231 := eq_true q231
              go_wp2
              go_loopg [11] k3 (fun kq v11 w' => ∃ (x11_4 : Int), v11 = .int .i64 x11_4 ∧ Aside0 (q03.l4 kq (l0_0.length : Int) x11_4 l0_0 a0_1 = some r) ∧ Aside0 (kq ≤ k3) ∧ Aside0 (w'.heap[gb212]? = some (.cells #[(.slice (some ad231) l0_0.length c0_0), .bool a0_1] 24 (0, 0))) ∧ Aside0 (Below w.heap.size w w'))
              case atStart => exact ⟨(0), (by first | rfl | (simp; done) | simp [*]), H', ⟨Nat.le_refl _⟩, ⟨by (with_reducible repeat (first | refine kN ?_ _ | refine kD ?_ | refine kA ?_ _)); exact BK212.out⟩, ⟨by repeat (first | (with_reducible first | exact HB.out | apply bA | apply bN | apply bD | refine bS ?_ GE212.out) | exact HB.out)⟩⟩
              case round =>
               clear H'
               try clear c1
               try clear c2
               try clear c2b0
               try clear c2b1
               try clear p2
               try clear q2
               try clear hx2
               try clear qi2
               try clear c3
               try clear c4
               try clear c5
               try clear c5b0
               try clear c5b1
               try clear c5b2
               try clear c6
               try clear p6
               try clear c7
               try clear c10
               try clear c10b0
               try clear c12
               try clear c12b0
               try clear c12b1
               try clear c13
               try clear c13b0
               try clear c14
               try clear c14b0
               try clear c15
               try clear c15b0
               try clear c15b1
               try clear c16
               try clear c16b0
               try clear c17
               try clear c20
               try clear c20b0
               try clear c21
               try clear c21b0
               try clear p21
               try clear q21
               try clear hx21
               try clear c22
               try clear c22b0
               try clear p22
               try clear q22
               try clear hx22
               try clear c23
               try clear p23
               try clear q23
               try clear hx23
               try clear qi23
               try clear c24
               try clear c25
               try clear c25b0
               try clear c26
               try clear c26b0
               try clear c28
               try clear c28b0
               try clear c28b1
               try clear c33
               try clear c33b0
               try clear c34
               try clear c34b0
               try clear c35
               try clear c35b0
               try clear c36
               try clear c36b0
               try clear c37
               try clear c37b0
               try clear c41
               try clear c42
               try clear c42b0
               try clear c43
               try clear c43b0
               try clear c44
               try clear c44b0
               try clear c44b1
               try clear c45
               try clear c45b0
               try clear c46
               try clear c46b0
               try clear c46b1
               try clear c51
               try clear c52
               try clear c52b0
               try clear c52b1
               try clear c53
               try clear c53b0
               try clear c54
               try clear c54b0
               try clear c55
               try clear c55b0
               try clear c55b1
               try clear c59
               try clear c59b0
               try clear c60
               try clear c60b0
               try clear c61
               try clear c61b0
               try clear c62
               try clear c62b0
               try clear c62b1
               try clear p64
               try clear c65
               try clear c66
               try clear c66b0
               try clear c67
               try clear c67b0
               try clear c69
               try clear c69b0
               try clear c73
               try clear c73b0
               try clear c73b1
               try clear c74
               try clear c74b0
               try clear c74b1
               try clear hcz17_0
               try clear hcz17_1
               try clear hcz18_0
               try clear hcz18_1
               try clear hcz19_0
               try clear hcz19_1
               try clear hcz23_0
               try clear hcz23_1
               try clear hcz29_0
               try clear hcz29_1
               try clear hcz31_0
               try clear hcz31_1
               try clear hcz39_0
               try clear hcz39_1
               try clear hcz48_0
               try clear hcz48_1
               try clear hcz4_0
               try clear hcz4_1
               try clear hcz50_0
               try clear hcz50_1
               try clear hcz56_0
               try clear hcz56_1
               try clear hcz57_0
               try clear hcz57_1
               try clear hcz58_0
               try clear hcz58_1
               try clear hcz63_0
               try clear hcz63_1
               try clear hcz70_0
               try clear hcz70_1
               try clear hcz71_0
               try clear hcz71_1
               try clear hcz72_0
               try clear hcz72_1
               try clear hcz75_0
               try clear hcz75_1
               try clear hcz7_0
               try clear hcz7_1
               try clear hcz9_0
               try clear hcz9_1
               try clear hfz17_0
               try clear hfz17_1
               try clear hfz18_0
               try clear hfz18_1
               try clear hfz19_0
               try clear hfz19_1
               try clear hfz23_0
               try clear hfz23_1
               try clear hfz29_0
               try clear hfz29_1
               try clear hfz31_0
               try clear hfz31_1
               try clear hfz39_0
               try clear hfz39_1
               try clear hfz48_0
               try clear hfz48_1
               try clear hfz4_0
               try clear hfz4_1
               try clear hfz50_0
               try clear hfz50_1
               try clear hfz56_0
               try clear hfz56_1
               try clear hfz57_0
               try clear hfz57_1
               try clear hfz58_0
               try clear hfz58_1
               try clear hfz63_0
               try clear hfz63_1
               try clear hfz70_0
               try clear hfz70_1
               try clear hfz71_0
               try clear hfz71_1
               try clear hfz72_0
               try clear hfz72_1
               try clear hfz75_0
               try clear hfz75_1
               try clear hfz7_0
               try clear hfz7_1
               try clear hfz9_0
               try clear hfz9_1
               try clear hx213_0
               try clear hx213_1
               try clear hx213_2
               try clear hx213_3
               try clear hx213_4
               try clear hx213_5
               try clear hx214_0
               try clear hx214_1
               try clear hx214_2
               try clear hx214_3
               try clear hx214_4
               try clear hx214_5
               try clear hx215_0
               try clear hx215_1
               try clear hx215_2
               try clear hx215_3
               try clear hx215_4
               try clear hx215_5
               try clear hx216_0
               try clear hx216_1
               try clear hx216_2
               try clear hx216_3
               try clear hx216_4
               try clear hx216_5
               try clear hx218_0
               try clear hx218_1
               try clear hx218_2
               try clear hx218_3
               try clear hx218_4
               try clear hx218_5
               try clear hx219_0
               try clear hx219_1
               try clear hx219_2
               try clear hx219_3
               try clear hx219_4
               try clear hx219_5
               try clear hx220_0
               try clear hx222_0
               try clear hx222_1
               try clear hx222_2
               try clear hx222_3
               try clear hx222_4
               try clear hx222_5
               try clear hx223_0
               try clear hx223_1
               try clear hx223_2
               try clear hx223_3
               try clear hx223_4
               try clear hx223_5
               try clear hx226_0
               try clear hx226_1
               try clear hx226_2
               try clear hx226_3
               try clear hx226_4
               try clear hx226_5
               try clear hx227_0
               try clear hx227_1
               try clear hx227_2
               try clear hx227_3
               try clear hx227_4
               try clear hx227_5
               try clear hx229_0
               try clear hx229_1
               try clear hx229_2
               try clear hx229_3
               try clear hx229_4
               try clear hx229_5
               try clear hx231_0
               try clear hx231_1
               try clear hx231_2
               try clear hx231_3
               try clear hx231_4
               try clear hx231_5
               try clear p2
               try clear p21
               try clear p213
               try clear p214
               try clear p215
               try clear p216
               try clear p218
               try clear p219
               try clear p22
               try clear p220
               try clear p222
               try clear p223
               try clear p226
               try clear p227
               try clear p229
               try clear p231
               try clear p6
               try clear q2
               try clear q21
               try clear q213
               try clear q214
               try clear q215
               try clear q216
               try clear q218
               try clear q219
               try clear q22
               try clear q220
               try clear q222
               try clear q223
               try clear q226
               try clear q227
               try clear q229
               try clear q231
               obtain ⟨x11_4, rfl, HA, HK4, BK212, HB⟩ := hrel
               cases gk with
               | zero => exact absurd HA.out (by simp [q03.l4])
               | succ k4 =>
                have H := HA.out
                clear HA
                simp only [q03.l4] at H
                by_cases c76 : x11_4 < (l0_0.length : Int)
                ·rw [if_pos c76] at H
                 have c76b0 : decide (x11_4 < (l0_0.length : Int)) = true := decide_eq_true c76
                 clear c76
                 replace H := Option.bind_eq_some_iff.mp H
                 obtain ⟨t232, A770, H⟩ := H
                 replace H : (if t232 < 0 then (some 8) else (if t232 > 40 then (some 2) else (q03.l4 k4 (l0_0.length : Int) (wrap64 (x11_4 + 1)) l0_0 a0_1))) = some r := H
                 have A77 := aS A770
                 clear A770
                 by_cases c78 : t232 < 0
                 ·rw [if_pos c78] at H
                  have c78b0 : decide (t232 < 0) = true := decide_eq_true c78
                  clear c78
                  obtain rfl := Option.some.inj H
                  have hcz79_0 : wr.cell? ⟨gb212, 0, none⟩ = some (.slice (some ad231) l0_0.length c0_0) := (q02 BK212.out 0).trans rfl
                  have hcz79_1 : wr.cell? ⟨gb212, 1, none⟩ = some (.bool a0_1) := (q02 BK212.out 1).trans rfl
                  have hfz79_0 := q01 BK212.out 0
                  have hfz79_1 := q01 BK212.out 1
                  go_wp2_with (first | ((with_reducible refine q0l (f := 65) rfl ?_); refine q1d (some 166) rfl rfl Tryd.func65 (by kernel_rfl) rfl #[.agg #[.slice (some ad231) l0_0.length c0_0, .bool a0_1], .int .i64 x11_4] rfl (by (try simp only [List.map_toArray, List.map_cons, List.map_nil]); first | done | rfl | (simp only [List.length_drop, List.length_take]; rfl)) ?_; (with_reducible refine (q0i.calls k4 _ _ l0_0 a0_1 x11_4 t232 _ ?side1 ?side2 A77.out).mono ?_); (case side1 => repeat (first | exact (Kd.C_below HR0_0.out HB.out) | (with_reducible refine cA ?_ _) | (with_reducible refine cN ?_ _) | (with_reducible refine cD ?_))); (case side2 => exact HC0_0.out); rintro e w80 ⟨rfl, hb⟩; refine ⟨_, rfl, ?_⟩; have n0_ := aS (q16 (g := gb212) (o := .cells #[.slice (some ad231) l0_0.length c0_0, .bool a0_1] 24 (0, 0)) (by (with_reducible repeat (first | refine kN ?_ _ | refine kD ?_ | refine kA ?_ _)); exact BK212.out) hb); have n1_ := aS (q09 (by repeat (first | (with_reducible first | exact HB.out | apply bA | apply bN | apply bD | refine bS ?_ GE212.out) | exact HB.out)) hb); clear BK212; clear HB; have BK212 := n0_; have HB := n1_; clear n0_ n1_; (try clear hb); (try clear hb2); (try clear hk); (try clear hi)))
                  go_ret
                  exact ⟨by first | rfl | (simp [q0b, q0a] <;> rfl) | (simp [*, q0b, q0a] <;> rfl), by repeat (first | (with_reducible first | exact HB.out | apply bA | apply bN | apply bD | refine bS ?_ GE212.out) | exact HB.out)⟩
                 ·rw [if_neg c78] at H
                  have c78b0 : decide (t232 < 0) = false := decide_eq_false c78
                  clear c78
                  by_cases c81 : t232 > 40
                  ·rw [if_pos c81] at H
                   have c81b0 : decide (40 < t232) = true := decide_eq_true c81
                   clear c81
                   obtain rfl := Option.some.inj H
                   have hcz82_0 : wr.cell? ⟨gb212, 0, none⟩ = some (.slice (some ad231) l0_0.length c0_0) := (q02 BK212.out 0).trans rfl
                   have hcz82_1 : wr.cell? ⟨gb212, 1, none⟩ = some (.bool a0_1) := (q02 BK212.out 1).trans rfl
                   have hfz82_0 := q01 BK212.out 0
                   have hfz82_1 := q01 BK212.out 1
                   go_wp2_with (first | ((with_reducible refine q0l (f := 65) rfl ?_); refine q1d (some 166) rfl rfl Tryd.func65 (by kernel_rfl) rfl #[.agg #[.slice (some ad231) l0_0.length c0_0, .bool a0_1], .int .i64 x11_4] rfl (by (try simp only [List.map_toArray, List.map_cons, List.map_nil]); first | done | rfl | (simp only [List.length_drop, List.length_take]; rfl)) ?_; (with_reducible refine (q0i.calls k4 _ _ l0_0 a0_1 x11_4 t232 _ ?side1 ?side2 A77.out).mono ?_); (case side1 => repeat (first | exact (Kd.C_below HR0_0.out HB.out) | (with_reducible refine cA ?_ _) | (with_reducible refine cN ?_ _) | (with_reducible refine cD ?_))); (case side2 => exact HC0_0.out); rintro e w83 ⟨rfl, hb⟩; refine ⟨_, rfl, ?_⟩; have n0_ := aS (q16 (g := gb212) (o := .cells #[.slice (some ad231) l0_0.length c0_0, .bool a0_1] 24 (0, 0)) (by (with_reducible repeat (first | refine kN ?_ _ | refine kD ?_ | refine kA ?_ _)); exact BK212.out) hb); have n1_ := aS (q09 (by repeat (first | (with_reducible first | exact HB.out | apply bA | apply bN | apply bD | refine bS ?_ GE212.out) | exact HB.out)) hb); clear BK212; clear HB; have BK212 := n0_; have HB := n1_; clear n0_ n1_; (try clear hb); (try clear hb2); (try clear hk); (try clear hi)))
                   go_ret
                   exact ⟨by first | rfl | (simp [q0b, q0a] <;> rfl) | (simp [*, q0b, q0a] <;> rfl), by repeat (first | (with_reducible first | exact HB.out | apply bA | apply bN | apply bD | refine bS ?_ GE212.out) | exact HB.out)⟩
                  ·rw [if_neg c81] at H
                   have c81b0 : decide (40 < t232) = false := decide_eq_false c81
                   clear c81
                   have H' := aS H
                   clear H
                   have hcz84_0 : wr.cell? ⟨gb212, 0, none⟩ = some (.slice (some ad231) l0_0.length c0_0) := (q02 BK212.out 0).trans rfl
                   have hcz84_1 : wr.cell? ⟨gb212, 1, none⟩ = some (.bool a0_1) := (q02 BK212.out 1).trans rfl
                   have hfz84_0 := q01 BK212.out 0
                   have hfz84_1 := q01 BK212.out 1
                   go_wp2_with (first | ((with_reducible refine q0l (f := 65) rfl ?_); refine q1d (some 166) rfl rfl Tryd.func65 (by kernel_rfl) rfl #[.agg #[.slice (some ad231) l0_0.length c0_0, .bool a0_1], .int .i64 x11_4] rfl (by (try simp only [List.map_toArray, List.map_cons, List.map_nil]); first | done | rfl | (simp only [List.length_drop, List.length_take]; rfl)) ?_; (with_reducible refine (q0i.calls k4 _ _ l0_0 a0_1 x11_4 t232 _ ?side1 ?side2 A77.out).mono ?_); (case side1 => repeat (first | exact (Kd.C_below HR0_0.out HB.out) | (with_reducible refine cA ?_ _) | (with_reducible refine cN ?_ _) | (with_reducible refine cD ?_))); (case side2 => exact HC0_0.out); rintro e w85 ⟨rfl, hb⟩; refine ⟨_, rfl, ?_⟩; have n0_ := aS (q16 (g := gb212) (o := .cells #[.slice (some ad231) l0_0.length c0_0, .bool a0_1] 24 (0, 0)) (by (with_reducible repeat (first | refine kN ?_ _ | refine kD ?_ | refine kA ?_ _)); exact BK212.out) hb); have n1_ := aS (q09 (by repeat (first | (with_reducible first | exact HB.out | apply bA | apply bN | apply bD | refine bS ?_ GE212.out) | exact HB.out)) hb); clear BK212; clear HB; have BK212 := n0_; have HB := n1_; clear n0_ n1_; (try clear hb); (try clear hb2); (try clear hk); (try clear hi)))
                   go_roundg k4
                   case measure => have := HK1.out; have := HK2.out; have := HK3.out; have := HK4.out; omega
                   case rel => exact ⟨(wrap64 (x11_4 + 1)), (by first | rfl | (simp; done) | simp [*]), H', ⟨by have := HK1.out; have := HK2.out; have := HK3.out; have := HK4.out; omega⟩, ⟨by (with_reducible repeat (first | refine kN ?_ _ | refine kD ?_ | refine kA ?_ _)); exact BK212.out⟩, ⟨by repeat (first | (with_reducible first | exact HB.out | apply bA | apply bN | apply bD | refine bS ?_ GE212.out) | exact HB.out)⟩⟩
                ·rw [if_neg c76] at H
                 have c76b0 : decide (x11_4 < (l0_0.length : Int)) = false := decide_eq_false c76
                 clear c76
                 obtain rfl := Option.some.inj H
                 go_wp2
                 go_ret
                 exact ⟨by first | rfl | (simp [q0b, q0a] <;> rfl) | (simp [*, q0b, q0a] <;> rfl), by repeat (first | (with_reducible first | exact HB.out | apply bA | apply bN | apply bD | refine bS ?_ GE212.out) | exact HB.out)⟩
             ·rw [if_neg c74] at H
              have c74b0 : (((q05 l0_0 0).f4) == (-1)) = false := beq_eq_false_iff_ne.mpr c74
              have c74b1 : (((q05 l0_0 0).f4) != (-1)) = true := bne_iff_ne.mpr c74
              obtain rfl := Option.some.inj H
              have hcz86_0 : wr.cell? ⟨gb212, 0, none⟩ = some (.slice A0_0 l0_0.length c0_0) := (q02 BK212.out 0).trans rfl
              have hcz86_1 : wr.cell? ⟨gb212, 1, none⟩ = some (.bool a0_1) := (q02 BK212.out 1).trans rfl
              have hfz86_0 := q01 BK212.out 0
              have hfz86_1 := q01 BK212.out 1
              have p231 : 0 ≤ (0 : Int) := (by omega)
              have q231 : 0 < (l0_0.length : Int) := od (by first | (with_reducible assumption) | assumption)
              obtain ⟨ad231, A231_2, c231_2, A231_5, c231_5, e231, hx231_0, hx231_1, hx231_2, hx231_3, hx231_4, hx231_5, hl231_2, hi231_2, hl231_5, hi231_5⟩ := q1j HR0_0.out 0 p231 q231
              cases e231
              have qi231 : (0 < l0_0.length) = True := eq_true (by omega)
              (try rw [show ((0 : Int)).toNat = 0 from rfl] at hx231_0)
              (try rw [show 0 * 6 = 0 from rfl] at hx231_0)
              (try rw [Addr.add_zero'] at hx231_0)
              (try rw [show ((0 : Int)).toNat = 0 from rfl] at hx231_1)
              (try rw [show 0 * 6 = 0 from rfl] at hx231_1)
              (try rw [Addr.add_zero'] at hx231_1)
              (try rw [show ((0 : Int)).toNat = 0 from rfl] at hx231_2)
              (try rw [show 0 * 6 = 0 from rfl] at hx231_2)
              (try rw [Addr.add_zero'] at hx231_2)
              (try rw [show ((0 : Int)).toNat = 0 from rfl] at hx231_3)
              (try rw [show 0 * 6 = 0 from rfl] at hx231_3)
              (try rw [Addr.add_zero'] at hx231_3)
              (try rw [show ((0 : Int)).toNat = 0 from rfl] at hx231_4)
              (try rw [show 0 * 6 = 0 from rfl] at hx231_4)
              (try rw [Addr.add_zero'] at hx231_4)
              (try rw [show ((0 : Int)).toNat = 0 from rfl] at hx231_5)
              (try rw [show 0 * 6 = 0 from rfl] at hx231_5)
              (try rw [Addr.add_zero'] at hx231_5)
              replace hx231_0 := (HB.out.cell (World.block_lt_of_cell? w _ hx231_0)).trans hx231_0
              replace hx231_1 := (HB.out.cell (World.block_lt_of_cell? w _ hx231_1)).trans hx231_1
              replace hx231_2 := (HB.out.cell (World.block_lt_of_cell? w _ hx231_2)).trans hx231_2
              replace hx231_3 := (HB.out.cell (World.block_lt_of_cell? w _ hx231_3)).trans hx231_3
              replace hx231_4 := (HB.out.cell (World.block_lt_of_cell? w _ hx231_4)).trans hx231_4
              replace hx231_5 := (HB.out.cell (World.block_lt_of_cell? w _ hx231_5)).trans hx231_5
              have HR231_2 := aS hi231_2
              have HC231_2 := aS hl231_2
              clear hi231_2 hl231_2
              have HR231_5 := aS hi231_5
              have HC231_5 := aS hl231_5
              clear hi231_5 hl231_5
              replace p231 := eq_true p231
              replace q231 := eq_true q231
              go_wp2
              go_ret
              exact ⟨by first | rfl | (simp [q0b, q0a] <;> rfl) | (simp [*, q0b, q0a] <;> rfl), by repeat (first | (with_reducible first | exact HB.out | apply bA | apply bN | apply bD | refine bS ?_ GE212.out) | exact HB.out)⟩
            ·rw [if_neg c73] at H
             exact absurd H (by simp)
end Go.Proofs.YthjnallbbhnndaaDoor.XWk
namespace Go.Proofs.YthjnallbbhnndaaDoor.Dm
open Go Go.RowKit Go.Proofs.YthjnallbbhnndaaDoor.XWk Go.Proofs.YthjnallbbhnndaaDoorW.PrintWords Go.Proofs.YthjnallbbhnndaaDoorW.PrintLast
def smallB (b : Int) : Bool := decide (97 ≤ b) && decide (b ≤ 122)
def signB (b : Int) : Bool := smallB b || (decide (48 ≤ b) && decide (b ≤ 57)) || decide (b = 45) || decide (b = 95) || decide (b = 58)
def firstB (el : Bool) (b : Int) : Bool := smallB b || (!el && (decide (b = 45) || decide (b = 95)))
def nameB (s : ByteArray) (el : Bool) : Bool := decide (1 ≤ s.size) && (decide (s.size ≤ 40) && ((bytesOf s).all signB && firstB el (bt s 0)))
theorem drop_bt (s : ByteArray) (i : Nat) (h : i < s.size) : (bytesOf s).drop i = bt s (i : Int) :: (bytesOf s).drop (i + 1) := by
  have hl : i < (bytesOf s).length := by rw [bytesOf_length]; exact h
  rw [List.drop_eq_getElem_cons hl]
  congr 1
  have := rd_bytesOf s (i : Int)
  rw [← this]
  simp [rd, List.getD, hl]
theorem j2_eq (k : Nat) (s : ByteArray) (el : Bool) (i b : Int) : q04.j2 (k + 1) s el i b (smallB b) = q04.j3 k s el i b (smallB b) (!signB b) := by
  rw [q04.j2]
  unfold signB
  cases hs : smallB b with
  | true => simp
  | false =>
    rw [if_neg (by decide)]
    by_cases h1 : b ≥ 48
    · rw [if_pos h1]
      by_cases h2 : b ≤ 57
      · rw [if_pos h2]; simp [h1, h2]
      · rw [if_neg h2]
        by_cases h3 : b = 45
        · rw [if_pos h3]; simp [h3]
        · rw [if_neg h3]
          by_cases h4 : b = 95
          · rw [if_pos h4]; simp [h4]
          · rw [if_neg h4]
            by_cases h5 : b = 58
            · simp [h5]
            · rw [show (b != 58) = true from by simp [h5]]; simp [h2, h3, h4, h5]
    · rw [if_neg h1]
      by_cases h3 : b = 45
      · rw [if_pos h3]; simp [h3]
      · rw [if_neg h3]
        by_cases h4 : b = 95
        · rw [if_pos h4]; simp [h4]
        · rw [if_neg h4]
          by_cases h5 : b = 58
          · simp [h5]
          · rw [show (b != 58) = true from by simp [h5]]; simp [h1, h3, h4, h5]
theorem l0_eq (k : Nat) (s : ByteArray) (el : Bool) (i : Nat) (h : i < s.size) : q04.l0 (k + 2) s el (i : Int) = q04.j3 k s el (i : Int) (bt s (i : Int)) (smallB (bt s (i : Int))) (!signB (bt s (i : Int))) := by
  rw [q04.l0, if_pos (by omega), if_pos (by omega), ← j2_eq]
  generalize bt s (i : Int) = b
  by_cases h1 : b ≥ 97
  · rw [if_pos h1, show decide (b ≤ 122) = smallB b from by unfold smallB; simp [h1]]
  · rw [if_neg h1, show false = smallB b from by unfold smallB; simp [h1]]
theorem refname_l0 (s : ByteArray) (el : Bool) (hs : s.size ≤ 1000) (d : Nat) : ∀ (i k : Nat), i + d = s.size → 3 * d < k → 1 ≤ i → q04.l0 k s el (i : Int) = some (((bytesOf s).drop i).all signB) := by
  induction d with
  | zero =>
    intro i k h hk _
    obtain ⟨k, rfl⟩ : ∃ q, k = q + 1 := ⟨k - 1, by omega⟩
    rw [q04.l0, if_neg (by omega), List.drop_eq_nil_of_le (by rw [bytesOf_length]; omega)]
    rfl
  | succ d ih =>
    intro i k h hk h1
    obtain ⟨k, rfl⟩ : ∃ q, k = q + 1 + 2 := ⟨k - 3, by omega⟩
    rw [l0_eq (k + 1) s el i (by omega), q04.j3, drop_bt s i (by omega), List.all_cons]
    cases hb : signB (bt s (i : Int)) with
    | false => rw [if_pos (by decide)]; rfl
    | true =>
      rw [if_neg (by decide), if_neg (by omega), show wrap64 ((i : Int) + 1) = ((i + 1 : Nat) : Int) from by unfold wrap64; omega, ih (i + 1) k (by omega) (by omega) (by omega)]
      rfl
theorem refname_eq (s : ByteArray) (el : Bool) (k : Nat) (hk : 130 < k) : q04.f k s el = some (nameB s el) := by
  obtain ⟨k, rfl⟩ : ∃ q, k = q + 1 + 2 + 1 := ⟨k - 4, by omega⟩
  unfold q04.f nameB
  by_cases h1 : s.size < 1
  · rw [if_pos (by omega), q04.j0, if_pos rfl]
    have : ¬ 1 ≤ s.size := by omega
    simp [this]
  · rw [if_neg (by omega), q04.j0]
    by_cases h2 : s.size ≤ 40
    · rw [if_neg (by simp; omega), show (0 : Int) = ((0 : Nat) : Int) from rfl, l0_eq (k + 1) s el 0 (by omega), q04.j3]
      have hd := drop_bt s 0 (by omega)
      rw [List.drop_zero] at hd
      rw [hd, List.all_cons, show decide (1 ≤ s.size) = true from decide_eq_true (by omega), show decide (s.size ≤ 40) = true from decide_eq_true h2]
      have hr := refname_l0 s el (by omega) (s.size - 1) 1 k (by omega) (by omega) (Nat.le_refl _)
      rw [show wrap64 (((0 : Nat) : Int) + 1) = ((1 : Nat) : Int) from by unfold wrap64; decide, hr]
      generalize ((bytesOf s).drop (0 + 1)) = t at hr ⊢
      generalize bt s ((0 : Nat) : Int) = b
      unfold firstB
      cases hb : signB b with
      | false => rw [if_pos (by decide)]; simp
      | true =>
        rw [if_neg (by decide), if_pos (by decide)]
        cases hsm : smallB b with
        | true => simp
        | false =>
          rw [if_neg (by decide)]
          cases el with
          | true => simp
          | false =>
            rw [if_neg (by decide)]
            by_cases h3 : b = 45
            · rw [if_pos h3]; simp [h3]
            · rw [if_neg h3]
              by_cases h4 : b = 95
              · rw [if_pos h4]; simp [h4]
              · rw [if_neg h4]; simp [h3, h4]
    · rw [if_pos (by simp; omega)]
      simp [h2]
def signsA : ByteArray := ⟨#[97, 98, 99, 100, 101, 102, 103, 104, 105, 106, 107, 108, 109, 110, 111, 112, 113, 114, 115, 116, 117, 118, 119, 120, 121, 122, 48, 49, 50, 51, 52, 53, 54, 55, 56, 57, 45, 95, 58]⟩
def firstA (el : Bool) : ByteArray := if el = true then signsA.extract 0 26 else signsA.extract 0 26 ++ ⟨#[45, 95]⟩
theorem first_all (el : Bool) : ∀ n : Fin 256, decide (0 ≤ Lib.indexByte (firstA el).data.toList (UInt8.ofNat n.val)) = firstB el (n.val : Int) := by
  cases el <;> decide +kernel
theorem sign_all : ∀ n : Fin 256, (signsA.data.toList).contains (UInt8.ofNat n.val) = signB (n.val : Int) := by decide +kernel
theorem first_eq (el : Bool) (b : Int) (h : 0 ≤ b ∧ b ≤ 255) : decide (0 ≤ Lib.indexByte (firstA el).data.toList (UInt8.ofNat b.toNat)) = firstB el b := by
  have := first_all el ⟨b.toNat, by omega⟩
  rw [show ((⟨b.toNat, by omega⟩ : Fin 256).val : Int) = b from by simp; omega] at this
  exact this
theorem sign_eq (c : UInt8) : (signsA.data.toList).contains c = signB (c.toNat : Int) := by
  have := sign_all ⟨c.toNat, c.toNat_lt⟩
  simpa using this
theorem dropWhile_nil {α : Type} (p : α → Bool) : ∀ l : List α, (l.dropWhile p = [] ↔ ∀ x ∈ l, p x = true)
  | [] => by simp
  | x :: t => by
    rw [List.dropWhile_cons]
    cases h : p x with
    | true => rw [if_pos rfl, dropWhile_nil p t]; simp [h]
    | false => rw [if_neg (by decide)]; simp [h]
theorem trim_nil (l cs : List UInt8) : Lib.trimS l cs = [] ↔ ∀ x ∈ l, cs.contains x = true := by
  unfold Lib.trimS Lib.trimLeftS Lib.trimRightS
  rw [dropWhile_nil]
  constructor
  · intro h x hx
    have e := List.takeWhile_append_dropWhile (p := fun y => cs.contains y) (l := l.reverse)
    have hx' : x ∈ l.reverse := List.mem_reverse.2 hx
    rw [← e] at hx'
    rcases List.mem_append.1 hx' with h1 | h1
    · exact List.all_eq_true.1 (List.all_takeWhile (p := fun y => cs.contains y) (l := l.reverse)) x h1
    · exact h x (List.mem_reverse.2 h1)
  · intro h x hx
    have h1 : x ∈ l.reverse := (List.dropWhile_sublist _).subset (List.mem_reverse.1 hx)
    exact h x (List.mem_reverse.1 h1)
theorem named_eq (s : ByteArray) (el : Bool) (hs : s.size ≤ 140737488355328) : q2m.f s (firstA el) = some (nameB s el) := by
  unfold q2m.f nameB
  by_cases h0 : s.toList = []
  · have : s.size = 0 := by
      rw [Lib.toList_data] at h0
      rw [← data_length, h0]; rfl
    have h2 : ¬ 1 ≤ s.size := by omega
    rw [if_pos h0]; simp [h2]
  · have hp : 1 ≤ s.size := by
      rw [Lib.toList_data] at h0
      have := List.length_pos_iff.2 h0
      rw [data_length] at this
      omega
    rw [if_neg h0]
    by_cases h1 : s.size ≤ 40
    · rw [if_pos (by omega), if_pos (by omega)]
      unfold strings_IndexByte.f strings_Trim.f
      simp only [Option.bind_some]
      have hf := first_eq el (bt s 0) (bt_range s 0)
      have ht : (((⟨(Lib.trimS s.data.toList signsA.data.toList).toArray⟩ : ByteArray).toList == ([] : List UInt8))) = (bytesOf s).all signB := by
        rw [Lib.toList_data, Bool.eq_iff_iff]
        simp only [beq_iff_eq]
        rw [trim_nil, List.all_eq_true]
        simp only [sign_eq]
        unfold bytesOf
        simp
      by_cases h2 : Lib.indexByte (firstA el).data.toList (UInt8.ofNat (bt s 0).toNat) ≥ 0
      · rw [if_pos h2, if_pos ⟨hs, by decide, by decide⟩]
        simp only [Option.bind_some]
        rw [decide_eq_true h2] at hf
        rw [← hf]
        have := ht
        unfold signsA at this
        rw [this]
        simp [hp, h1]
      · rw [if_neg h2]
        rw [decide_eq_false h2] at hf
        rw [← hf]
        simp
    · rw [if_neg (by omega)]; simp [h1]
theorem Name_eq (s : ByteArray) (hs : s.size ≤ 140737488355328) : dom_Name.f s = some (nameB s true) := by
  unfold dom_Name.f
  have := named_eq s true hs
  rw [show firstA true = (⟨#[97, 98, 99, 100, 101, 102, 103, 104, 105, 106, 107, 108, 109, 110, 111, 112, 113, 114, 115, 116, 117, 118, 119, 120, 121, 122, 48, 49, 50, 51, 52, 53, 54, 55, 56, 57, 45, 95, 58]⟩ : ByteArray).extract 0 26 from rfl] at this
  rw [if_pos (by decide), if_pos (by decide), this]
  rfl
theorem attrName_eq (s : ByteArray) (hs : s.size ≤ 140737488355328) : q20.f s = some (nameB s false) := by
  unfold q20.f
  have := named_eq s false hs
  rw [show firstA false = (⟨#[97, 98, 99, 100, 101, 102, 103, 104, 105, 106, 107, 108, 109, 110, 111, 112, 113, 114, 115, 116, 117, 118, 119, 120, 121, 122, 48, 49, 50, 51, 52, 53, 54, 55, 56, 57, 45, 95, 58]⟩ : ByteArray).extract 0 26 ++ (⟨#[45, 95]⟩ : ByteArray) from rfl] at this
  rw [if_pos (by decide), if_pos (by decide), if_pos (by decide), this]
  rfl
end Go.Proofs.YthjnallbbhnndaaDoor.Dm
namespace Go.Proofs.YthjnallbbhnndaaDoor.Dm
open Go Go.RowKit Go.Proofs.YthjnallbbhnndaaDoor.XWk Go.Proofs.YthjnallbbhnndaaDoorW.PrintWords Go.Proofs.YthjnallbbhnndaaDoorW.PrintLast
def hasA (l : List S122) (nm : ByteArray) : Bool := l.any (fun x => x.f0.toList == nm.toList)
theorem find_has (l : List S122) (nm : ByteArray) (hl : l.length ≤ 1000000) : ∃ r, q2s.f l nm = some r ∧ decide (r ≥ 0) = hasA l nm := by
  unfold q2s.f
  rw [if_pos (by omega)]
  exact ⟨_, rfl, Cl.idxOf_any _ l⟩
theorem dropA (l : List S122) (i : Nat) (h : i < l.length) : l.drop i = q0v l (i : Int) :: l.drop (i + 1) := by
  rw [List.drop_eq_getElem_cons h]
  congr 1
  simp [q0v, List.getD, h]
theorem rdA (l : List S122) (i : Nat) (h : i < l.length) : q0v l (i : Int) = l[i] := by simp [q0v, List.getD, h]
theorem attrOf_l0 (l : List S122) (nm : ByteArray) (hl : l.length ≤ 1000000) (d : Nat) : ∀ (i k : Nat), i + d = l.length → d < k → ∃ v, q0h.l0 k l nm (i : Int) = some (v, (l.drop i).any (fun x => x.f0.toList == nm.toList)) := by
  induction d with
  | zero =>
    intro i k h hk
    obtain ⟨k, rfl⟩ : ∃ q, k = q + 1 := ⟨k - 1, by omega⟩
    rw [q0h.l0, if_neg (by omega), List.drop_eq_nil_of_le (by omega)]
    exact ⟨_, rfl⟩
  | succ d ih =>
    intro i k h hk
    obtain ⟨k, rfl⟩ : ∃ q, k = q + 1 := ⟨k - 1, by omega⟩
    obtain ⟨v, hv⟩ := ih (i + 1) k (by omega) (by omega)
    rw [q0h.l0, if_pos (by omega), if_pos (by omega), show wrap64 ((i : Int) + 1) = ((i + 1 : Nat) : Int) from by unfold wrap64; omega, dropA l i (by omega), List.any_cons, hv]
    by_cases hn : (q0v l (i : Int)).f0.toList = nm.toList
    · rw [if_pos hn]; exact ⟨(q0v l (i : Int)).f1, by simp [hn]⟩
    · rw [if_neg hn]; exact ⟨v, by simp [hn]⟩
theorem attrOf_has (l : List S122) (nm : ByteArray) (hl : l.length ≤ 1000000) (k : Nat) (hk : l.length < k) : ∃ v, q0h.f k l nm = some (v, hasA l nm) := by
  obtain ⟨v, h⟩ := attrOf_l0 l nm hl l.length 0 k (by omega) hk
  exact ⟨v, h⟩
def errA (l : List S122) : Nat → Nat → Int
  | 0, _ => 0
  | d + 1, i => if nameB (q0v l (i : Int)).f0 false = true then (if 400 < (q0v l (i : Int)).f1.size then 2 else if hasA (l.take i) (q0v l (i : Int)).f0 = true then 3 else errA l d (i + 1)) else 3
theorem errA_succ (l : List S122) (d i : Nat) : errA l (d + 1) i = if nameB (q0v l (i : Int)).f0 false = true then (if 400 < (q0v l (i : Int)).f1.size then 2 else if hasA (l.take i) (q0v l (i : Int)).f0 = true then 3 else errA l d (i + 1)) else 3 := rfl
def smallA (l : List S122) : Prop := ∀ x ∈ l, x.f0.size ≤ 140737488355328
theorem attrs_l0 (l : List S122) (hl : l.length ≤ 1000000) (hs : smallA l) (d : Nat) : ∀ (i k : Nat), i + d = l.length → d < k → q19.l0 k l l (l.length : Int) (i : Int) = some (errA l d i) := by
  induction d with
  | zero =>
    intro i k h hk
    obtain ⟨k, rfl⟩ : ∃ q, k = q + 1 := ⟨k - 1, by omega⟩
    rw [q19.l0, if_neg (by omega)]
    rfl
  | succ d ih =>
    intro i k h hk
    obtain ⟨k, rfl⟩ : ∃ q, k = q + 1 := ⟨k - 1, by omega⟩
    have hm : q0v l (i : Int) ∈ l := by rw [rdA l i (by omega)]; exact List.getElem_mem _
    obtain ⟨r, hr1, hr2⟩ := find_has (l.take i) (q0v l (i : Int)).f0 (by rw [List.length_take]; omega)
    rw [q19.l0, if_pos (by omega), if_pos (by omega), if_pos (by omega), attrName_eq _ (hs _ hm), show wrap64 ((i : Int) + 1) = ((i + 1 : Nat) : Int) from by unfold wrap64; omega, ih (i + 1) k (by omega) (by omega), show ((i : Int)).toNat = i from rfl, hr1]
    simp only [Option.bind_some]
    rw [errA_succ]
    cases nameB (q0v l (i : Int)).f0 false with
    | false => rw [if_neg (by decide), if_neg (by decide)]
    | true =>
      rw [if_pos rfl, if_pos rfl]
      by_cases h4 : 400 < (q0v l (i : Int)).f1.size
      · rw [if_pos (by omega), if_pos h4]
      · rw [if_neg (by omega), if_neg h4, if_pos (by omega), ← hr2]
        by_cases h5 : r ≥ 0
        · rw [if_pos h5, if_pos (decide_eq_true h5)]
        · rw [if_neg h5, if_neg (by simpa using h5)]
theorem attrs_eq (l : List S122) (hs : smallA l) (k : Nat) (hk : 12 < k) : q19.f k l = some (if 12 < l.length then 2 else errA l l.length 0) := by
  unfold q19.f
  by_cases h : 12 < l.length
  · rw [if_pos (by omega), if_pos h]
  · rw [if_neg (by omega), if_neg h]
    exact attrs_l0 l (by omega) hs l.length 0 k (by omega) (by omega)
def bareB (x : S43) : Bool := (decide (x.f0 = 2) || decide (x.f0 = 5) || decide (x.f1.toList = [])) && ((decide (x.f0 = 2) || decide (x.f2.length = 0)) && ((decide (x.f0 = 3) || decide (x.f0 = 4) || decide (x.f3.toList = [])) && (decide (x.f0 = 1) || decide (x.f0 = 2) || decide (x.f5.length = 0))))
theorem bare_eq (x : S43) (h1 : 1 ≤ x.f0) (h5 : x.f0 ≤ 5) : q2y.f x.f0 x.f1 x.f2 x.f3 x.f4 x.f5 = some (bareB x) := by
  obtain ⟨kind, name, attrs, text, parent, kids⟩ := x
  simp only at h1 h5 ⊢
  have hk : kind = 1 ∨ kind = 2 ∨ kind = 3 ∨ kind = 4 ∨ kind = 5 := by omega
  unfold q2y.f q1f.f bareB
  by_cases hn : name.toList = [] <;> by_cases ha : attrs.length = 0 <;> by_cases ht : text.toList = [] <;> by_cases hd : kids.length = 0 <;> rcases hk with rfl | rfl | rfl | rfl | rfl <;> simp [hn, ha, ht, hd]
def nodeE (x : S43) : Int :=
  if x.f0 < 1 ∨ 5 < x.f0 ∨ bareB x = false then 7 else if x.f0 = 2 ∧ nameB x.f1 true = false then 3 else if 12 < x.f2.length then 2 else if errA x.f2 x.f2.length 0 ≠ 0 then errA x.f2 x.f2.length 0 else if 400 < x.f3.size ∨ 400 < x.f1.size then 2 else 0
theorem j1_eq (x : S43) (hs : smallA x.f2) (k : Nat) (hk : 13 < k) : q1h.j1 k x.f0 x.f1 x.f2 x.f3 x.f4 x.f5 = some (if 12 < x.f2.length then 2 else if errA x.f2 x.f2.length 0 ≠ 0 then errA x.f2 x.f2.length 0 else if 400 < x.f3.size ∨ 400 < x.f1.size then 2 else 0) := by
  obtain ⟨k, rfl⟩ : ∃ q, k = q + 1 := ⟨k - 1, by omega⟩
  rw [q1h.j1, attrs_eq x.f2 hs k (by omega)]
  simp only [Option.bind_some]
  by_cases h : 12 < x.f2.length
  · rw [if_pos h, if_pos h, if_neg (by decide)]
  · rw [if_neg h, if_neg h]
    by_cases h2 : errA x.f2 x.f2.length 0 = 0
    · rw [if_pos h2, if_neg (show ¬ errA x.f2 x.f2.length 0 ≠ 0 from fun hh => hh h2)]
      by_cases h3 : 400 < x.f3.size
      · rw [if_pos (by omega), if_pos (.inl h3)]
      · rw [if_neg (by omega)]
        by_cases h4 : 400 < x.f1.size
        · rw [if_pos (by omega), if_pos (.inr h4)]
        · rw [if_neg (by omega), if_neg (by omega)]
    · rw [if_neg h2, if_pos h2]
theorem one_eq (x : S43) (hs : smallA x.f2) (hn : x.f1.size ≤ 140737488355328) (k : Nat) (hk : 14 < k) : q1h.f k x.f0 x.f1 x.f2 x.f3 x.f4 x.f5 = some (nodeE x) := by
  obtain ⟨k, rfl⟩ : ∃ q, k = q + 1 := ⟨k - 1, by omega⟩
  have hj : ∀ b : Bool, q1h.j0 (k + 1) b x.f0 x.f1 x.f2 x.f3 x.f4 x.f5 = some (if b = true then 7 else if x.f0 = 2 ∧ nameB x.f1 true = false then 3 else if 12 < x.f2.length then 2 else if errA x.f2 x.f2.length 0 ≠ 0 then errA x.f2 x.f2.length 0 else if 400 < x.f3.size ∨ 400 < x.f1.size then 2 else 0) := by
    intro b
    have hj1 := j1_eq x hs k (by omega)
    generalize (if 12 < x.f2.length then (2 : Int) else if errA x.f2 x.f2.length 0 ≠ 0 then errA x.f2 x.f2.length 0 else if 400 < x.f3.size ∨ 400 < x.f1.size then 2 else 0) = tl at hj1 ⊢
    rw [q1h.j0, hj1, Name_eq x.f1 hn]
    simp only [Option.bind_some]
    cases b <;> by_cases h2 : x.f0 = 2 <;> cases nameB x.f1 true <;> simp [h2]
  unfold q1h.f nodeE
  by_cases h1 : x.f0 < 1
  · rw [if_pos h1, hj]; simp [h1]
  · rw [if_neg h1]
    by_cases h5 : x.f0 > 5
    · rw [if_pos h5, hj]; simp [h5]
    · rw [if_neg h5, bare_eq x (by omega) (by omega)]
      simp only [Option.bind_some]
      rw [hj]
      have h5' : ¬ 5 < x.f0 := h5
      cases bareB x <;> simp [h1, h5']
theorem rn_l0 (x : S43) (hl : x.f2.length ≤ 1000) (d : Nat) : ∀ (i k : Nat), i + d = x.f2.length → d + 150 + x.f2.length < k → q00.l0 k (i : Int) x.f0 x.f1 x.f2 x.f3 x.f4 x.f5 = some (if errA x.f2 d i ≠ 0 then errA x.f2 d i else if 400 < x.f3.size ∨ 400 < x.f1.size then 2 else 0) := by
  induction d with
  | zero =>
    intro i k h hk
    obtain ⟨k, rfl⟩ : ∃ q, k = q + 1 := ⟨k - 1, by omega⟩
    rw [q00.l0, if_neg (by omega)]
    by_cases h3 : 400 < x.f3.size
    · rw [if_pos (by omega)]; simp [errA, h3]
    · rw [if_neg (by omega)]
      by_cases h4 : 400 < x.f1.size
      · rw [if_pos (by omega)]; simp [errA, h3, h4]
      · rw [if_neg (by omega)]; simp [errA, h3, h4]
  | succ d ih =>
    intro i k h hk
    obtain ⟨k, rfl⟩ : ∃ q, k = q + 1 := ⟨k - 1, by omega⟩
    obtain ⟨v, hv⟩ := attrOf_has (x.f2.take i) (q0v x.f2 (i : Int)).f0 (by rw [List.length_take]; omega) k (by rw [List.length_take]; omega)
    have hi := ih (i + 1) k (by omega) (by omega)
    rw [errA_succ]
    generalize (if 400 < x.f3.size ∨ 400 < x.f1.size then (2 : Int) else 0) = tl at hi ⊢
    rw [q00.l0, if_pos (by omega), if_pos (by omega), refname_eq _ false k (by omega), show wrap64 ((i : Int) + 1) = ((i + 1 : Nat) : Int) from by unfold wrap64; omega, hi, show ((i : Int)).toNat = i from rfl, hv]
    simp only [Option.bind_some]
    have h4 : ((q0v x.f2 (i : Int)).f1.size : Int) > 400 ↔ 400 < (q0v x.f2 (i : Int)).f1.size := by omega
    have h5 : (i : Int) ≤ (x.f2.length : Int) := by omega
    simp only [h4, h5, if_true]
    cases nameB (q0v x.f2 (i : Int)).f0 false <;> by_cases h6 : 400 < (q0v x.f2 (i : Int)).f1.size <;> cases hasA (x.f2.take i) (q0v x.f2 (i : Int)).f0 <;> simp [h6]
theorem rn_j1 (x : S43) (b : Bool) (k : Nat) (hk : 1200 < k) : q00.j1 k b x.f0 x.f1 x.f2 x.f3 x.f4 x.f5 = some (if b = true then 3 else if 12 < x.f2.length then 2 else if errA x.f2 x.f2.length 0 ≠ 0 then errA x.f2 x.f2.length 0 else if 400 < x.f3.size ∨ 400 < x.f1.size then 2 else 0) := by
  obtain ⟨k, rfl⟩ : ∃ q, k = q + 1 := ⟨k - 1, by omega⟩
  rw [q00.j1]
  cases b with
  | true => rfl
  | false =>
    by_cases h : 12 < x.f2.length
    · have h' : (x.f2.length : Int) > 12 := by omega
      simp [h, h']
    · have h' : ¬ (x.f2.length : Int) > 12 := by omega
      have := rn_l0 x (by omega) x.f2.length 0 k (by omega) (by omega)
      rw [if_neg (by decide), if_neg h', if_neg (by decide), if_neg h]
      exact this
theorem rn_j0 (x : S43) (b : Bool) (k : Nat) (hk : 1201 < k) : q00.j0 k b x.f0 x.f1 x.f2 x.f3 x.f4 x.f5 = some (if b = true then 7 else if x.f0 = 2 ∧ nameB x.f1 true = false then 3 else if 12 < x.f2.length then 2 else if errA x.f2 x.f2.length 0 ≠ 0 then errA x.f2 x.f2.length 0 else if 400 < x.f3.size ∨ 400 < x.f1.size then 2 else 0) := by
  obtain ⟨k, rfl⟩ : ∃ q, k = q + 1 := ⟨k - 1, by omega⟩
  have hj := fun b => rn_j1 x b k (by omega)
  generalize (if 12 < x.f2.length then (2 : Int) else if errA x.f2 x.f2.length 0 ≠ 0 then errA x.f2 x.f2.length 0 else if 400 < x.f3.size ∨ 400 < x.f1.size then 2 else 0) = tl at hj ⊢
  rw [q00.j0, refname_eq _ true k (by omega)]
  simp only [Option.bind_some, hj]
  cases b <;> by_cases h2 : x.f0 = 2 <;> cases nameB x.f1 true <;> simp [h2]
theorem nodeErr_eq (x : S43) (k : Nat) (hk : 1201 < k) : q00.f k x.f0 x.f1 x.f2 x.f3 x.f4 x.f5 = some (nodeE x) := by
  have hj := fun b => rn_j0 x b k hk
  unfold nodeE
  by_cases h1 : x.f0 < 1
  · unfold q00.f q0p.f
    rw [if_neg (by omega)]; simp [h1]
  · by_cases h5 : 5 < x.f0
    · unfold q00.f q0p.f
      rw [if_pos (by omega)]
      have : ¬ x.f0 ≤ 5 := by omega
      simp [h5, this]
    · have e : q00.f k x.f0 x.f1 x.f2 x.f3 x.f4 x.f5 = q00.j0 k (!bareB x) x.f0 x.f1 x.f2 x.f3 x.f4 x.f5 := by
        clear hj
        obtain ⟨kind, name, attrs, text, parent, kids⟩ := x
        simp only at h1 h5 ⊢
        have hk : kind = 1 ∨ kind = 2 ∨ kind = 3 ∨ kind = 4 ∨ kind = 5 := by omega
        unfold q00.f q0p.f bareB
        have ea : (attrs.length : Int) > 0 ↔ ¬ attrs.length = 0 := by omega
        have ed : (kids.length : Int) > 0 ↔ ¬ kids.length = 0 := by omega
        simp only [ea, ed]
        by_cases hn : name.toList = [] <;> by_cases ha : attrs.length = 0 <;> by_cases ht : text.toList = [] <;> by_cases hd : kids.length = 0 <;> rcases hk with rfl | rfl | rfl | rfl | rfl <;> simp [hn, ha, ht, hd]
      rw [e, hj]
      cases bareB x <;> simp [h1, h5]
end Go.Proofs.YthjnallbbhnndaaDoor.Dm
namespace Go.Proofs.YthjnallbbhnndaaDoor.Dm
open Go Go.RowKit Go.Proofs.YthjnallbbhnndaaDoor.XWk Go.Proofs.YthjnallbbhnndaaDoorW.PrintWords Go.Proofs.YthjnallbbhnndaaDoorW.PrintLast
def par (ns : List S43) (n : Int) : Int := (q05 ns n).f4
def InR (ns : List S43) : Prop := ∀ i : Int, 0 ≤ i → i < ns.length → par ns i < ns.length
def q2u (ns : List S43) : Nat → Int → Nat
  | 0, _ => 0
  | d + 1, n => if par ns n ≥ 0 then 1 + q2u ns d (par ns n) else 0
theorem deepN_le (ns : List S43) : ∀ d n, q2u ns d n ≤ d
  | 0, _ => Nat.le_refl _
  | d + 1, n => by
    unfold q2u
    have := deepN_le ns d (par ns n)
    split <;> omega
theorem up_l0 (ns : List S43) (q : Bool) (hl : ns.length ≤ 1000) (hr : InR ns) (d : Nat) : ∀ (many : Nat) (n : Int) (k : Nat), many + d = ns.length + 1 → 0 ≤ n → n < ns.length → d < k →
    q1x.l0 k n (many : Int) ns q = some ((many + q2u ns d n : Nat) : Int) := by
  induction d with
  | zero =>
    intro many n k h h0 h1 hk
    obtain ⟨k, rfl⟩ : ∃ z, k = z + 1 := ⟨k - 1, by omega⟩
    rw [q1x.l0, if_pos h0, if_pos h1]
    by_cases hp : (q05 ns n).f4 ≥ 0
    · rw [if_pos hp, if_neg (by omega)]; rfl
    · rw [if_neg hp]; rfl
  | succ d ih =>
    intro many n k h h0 h1 hk
    obtain ⟨k, rfl⟩ : ∃ z, k = z + 1 := ⟨k - 1, by omega⟩
    rw [q1x.l0, if_pos h0, if_pos h1]
    have hrn := hr n h0 h1
    unfold q2u
    by_cases hp : par ns n ≥ 0
    · have hp' : (q05 ns n).f4 ≥ 0 := hp
      rw [if_pos hp', if_pos (by omega), if_pos hp, show wrap64 ((many : Int) + 1) = ((many + 1 : Nat) : Int) from by unfold wrap64; omega, show (q05 ns n).f4 = par ns n from rfl, ih (many + 1) (par ns n) k (by omega) hp hrn (by omega)]
      congr 2
      omega
    · have hp' : ¬ (q05 ns n).f4 ≥ 0 := hp
      rw [if_neg hp', if_neg hp]; rfl
theorem deep_l0 (ns : List S43) (q : Bool) (hl : ns.length ≤ 1000) (hr : InR ns) (d : Nat) : ∀ (many : Nat) (n : Int) (k : Nat), many + d = ns.length → 0 ≤ n → n < ns.length → d < k →
    q0i.l0 k n (many : Int) ns q = some (if ns.length < many + q2u ns (d + 1) n then -1 else ((many + q2u ns (d + 1) n : Nat) : Int)) := by
  induction d with
  | zero =>
    intro many n k h h0 h1 hk
    obtain ⟨k, rfl⟩ : ∃ z, k = z + 1 := ⟨k - 1, by omega⟩
    rw [q0i.l0, if_pos h0, if_pos h1, show wrap64 ((many : Int) + 1) = ((many + 1 : Nat) : Int) from by unfold wrap64; omega]
    have e : q2u ns (0 + 1) n = if par ns n ≥ 0 then 1 + 0 else 0 := rfl
    rw [e]
    by_cases hp : par ns n ≥ 0
    · have hp' : (q05 ns n).f4 ≥ 0 := hp
      rw [if_pos hp', if_pos (by omega), if_pos hp, if_pos (by omega)]
    · have hp' : ¬ (q05 ns n).f4 ≥ 0 := hp
      rw [if_neg hp', if_neg hp, if_neg (by omega)]; rfl
  | succ d ih =>
    intro many n k h h0 h1 hk
    obtain ⟨k, rfl⟩ : ∃ z, k = z + 1 := ⟨k - 1, by omega⟩
    have hrn := hr n h0 h1
    rw [q0i.l0, if_pos h0, if_pos h1, show wrap64 ((many : Int) + 1) = ((many + 1 : Nat) : Int) from by unfold wrap64; omega]
    have e : q2u ns (d + 1 + 1) n = if par ns n ≥ 0 then 1 + q2u ns (d + 1) (par ns n) else 0 := rfl
    rw [e]
    by_cases hp : par ns n ≥ 0
    · have hp' : (q05 ns n).f4 ≥ 0 := hp
      rw [if_pos hp', if_neg (by omega), if_pos hp, show (q05 ns n).f4 = par ns n from rfl, ih (many + 1) (par ns n) k (by omega) hp hrn (by omega), show many + 1 + q2u ns (d + 1) (par ns n) = many + (1 + q2u ns (d + 1) (par ns n)) by omega]
    · have hp' : ¬ (q05 ns n).f4 ≥ 0 := hp
      rw [if_neg hp', if_neg hp, if_neg (by omega)]; rfl
theorem up_eq (ns : List S43) (q : Bool) (hl : ns.length ≤ 1000) (hr : InR ns) (n : Int) (h0 : 0 ≤ n) (h1 : n < ns.length) (k : Nat) (hk : ns.length + 1 < k) : q1x.f k ns q n = some ((q2u ns (ns.length + 1) n : Nat) : Int) := by
  have := up_l0 ns q hl hr (ns.length + 1) 0 n k (by omega) h0 h1 hk
  rw [Nat.zero_add] at this
  exact this
theorem deep_eq (ns : List S43) (q : Bool) (hl : ns.length ≤ 1000) (hr : InR ns) (n : Int) (h0 : 0 ≤ n) (h1 : n < ns.length) (k : Nat) (hk : ns.length < k) : q0i.f k ns q n = some (if ns.length < q2u ns (ns.length + 1) n then -1 else ((q2u ns (ns.length + 1) n : Nat) : Int)) := by
  have := deep_l0 ns q hl hr ns.length 0 n k (by omega) h0 h1 hk
  rw [Nat.zero_add] at this
  exact this
end Go.Proofs.YthjnallbbhnndaaDoor.Dm
namespace Go.Proofs.YthjnallbbhnndaaDoor.Dm
open Go Go.RowKit Go.Proofs.YthjnallbbhnndaaDoor.XWk Go.Proofs.YthjnallbbhnndaaDoorW.PrintWords Go.Proofs.YthjnallbbhnndaaDoorW.PrintLast
def hasK (l : List Int) (x : Int) : Bool := l.any (fun y => decide (y = x))
theorem dropK (o : List Int) (i : Nat) (h : i < o.length) : o.drop i = rd o (i : Int) :: o.drop (i + 1) := by
  rw [List.drop_eq_getElem_cons h]
  congr 1
  simp [rd, List.getD, h]
theorem takeK (o : List Int) (i : Nat) (h : i < o.length) : o.take (i + 1) = o.take i ++ [rd o (i : Int)] := by
  rw [List.take_succ_eq_append_getElem h]
  congr 2
  simp [rd, List.getD, h]
theorem place_l0 (o : List Int) (x : Int) (ho : o.length ≤ 4611686018427387904) (d : Nat) : ∀ (i k : Nat), i + d = o.length → d < k → ∃ r, q08.l0 k o x (i : Int) = some r ∧ decide (r ≥ 0) = (o.drop i).any (fun y => decide (y = x)) := by
  induction d with
  | zero =>
    intro i k h hk
    obtain ⟨k, rfl⟩ : ∃ q, k = q + 1 := ⟨k - 1, by omega⟩
    rw [q08.l0, if_neg (by omega), List.drop_eq_nil_of_le (by omega)]
    exact ⟨_, rfl, rfl⟩
  | succ d ih =>
    intro i k h hk
    obtain ⟨k, rfl⟩ : ∃ q, k = q + 1 := ⟨k - 1, by omega⟩
    obtain ⟨r, hi, hd⟩ := ih (i + 1) k (by omega) (by omega)
    rw [q08.l0, if_pos (by omega), if_pos (by omega), show wrap64 ((i : Int) + 1) = ((i + 1 : Nat) : Int) from by unfold wrap64; omega, hi, dropK o i (by omega), List.any_cons]
    by_cases hx : rd o (i : Int) = x
    · rw [if_pos hx]; exact ⟨_, rfl, by simp [hx]⟩
    · rw [if_neg hx]; exact ⟨r, rfl, by simpa [hx] using hd⟩
theorem place_has (o : List Int) (x : Int) (ho : o.length ≤ 4611686018427387904) (k : Nat) (hk : o.length < k) : ∃ r, q08.f k o x = some r ∧ decide (r ≥ 0) = hasK o x := by
  obtain ⟨r, h1, h2⟩ := place_l0 o x ho o.length 0 k (by omega) hk
  exact ⟨r, h1, by rw [h2, List.drop_zero]; rfl⟩
def kidL (ns : List S43) (n : Int) : List Int := (q05 ns n).f5
def q2p (ns : List S43) (i : Int) (pre : List Int) (c : Int) : Bool := decide (c < 0) || (decide (c ≥ ns.length) || (decide (par ns c ≠ i) || hasK pre c))
def kidsE (ns : List S43) (i : Int) : List Int → List Int → Int
  | _, [] => 0
  | pre, c :: t => if q2p ns i pre c = true then 3 else if i = 0 ∧ (q05 ns c).f0 = 3 then 7 else kidsE ns i (pre ++ [c]) t
theorem kidsE_cons (ns : List S43) (i : Int) (pre : List Int) (c : Int) (t : List Int) : kidsE ns i pre (c :: t) = if q2p ns i pre c = true then 3 else if i = 0 ∧ (q05 ns c).f0 = 3 then 7 else kidsE ns i (pre ++ [c]) t := rfl
theorem kidBad_range {ns : List S43} {i : Int} {pre : List Int} {c : Int} (h : ¬ q2p ns i pre c = true) : 0 ≤ c ∧ c < ns.length ∧ par ns c = i ∧ hasK pre c = false := by
  unfold q2p at h
  simp only [Bool.or_eq_true, decide_eq_true_eq, not_or, Decidable.not_not, Bool.not_eq_true] at h
  exact ⟨by omega, by omega, h.2.2.1, h.2.2.2⟩
def orE (a b : Int) : Int := if a ≠ 0 then a else b
theorem orE_zero (b : Int) : orE 0 b = b := by simp [orE]
theorem orE_ne {a : Int} (b : Int) (h : a ≠ 0) : orE a b = a := by simp [orE, h]
theorem w1 (i : Nat) (h : i ≤ 4611686018427387904) : wrap64 ((i : Int) + 1) = ((i + 1 : Nat) : Int) := by unfold wrap64; omega
theorem wm (n : Nat) (h : n ≤ 4611686018427387904) : wrap64 ((n : Int) - 1) = (n : Int) - 1 := by unfold wrap64; omega
theorem ref_j4 (ns : List S43) (q : Bool) (i p : Nat) (c : Int) (pre t : List Int) (hp : p ≤ 4611686018427387903) (R : Int) (k : Nat)
    (hi : q03.l2 k (ns.length : Int) (i : Int) ((p + 1 : Nat) : Int) ns q = some (orE (kidsE ns (i : Int) (pre ++ [c]) t) R)) :
    q03.j4 (k + 1) (ns.length : Int) (i : Int) (p : Int) c (q2p ns (i : Int) pre c) ns q = some (orE (kidsE ns (i : Int) pre (c :: t)) R) := by
  rw [q03.j4, kidsE_cons]
  by_cases hb : q2p ns (i : Int) pre c = true
  · rw [if_pos hb, if_pos hb]; rfl
  · rw [if_neg hb, if_neg hb]
    have hr := kidBad_range hb
    by_cases h0 : (i : Int) = 0
    · rw [if_pos h0, if_pos hr.1, if_pos hr.2.1]
      by_cases h3 : (q05 ns c).f0 = 3
      · rw [if_pos h3, if_pos ⟨h0, h3⟩]; rfl
      · rw [if_neg h3, if_neg (fun h => h3 h.2), w1 p (by omega), hi]
    · rw [if_neg h0, if_neg (fun h => h0 h.1), w1 p (by omega), hi]
theorem refkids (ns : List S43) (q : Bool) (hl : ns.length ≤ 1000) (i : Nat) (hi : i < ns.length) (ks : List Int) (hks : (q05 ns (i : Int)).f5 = ks) (hc : ks.length ≤ 4611686018427387900) (B : Nat) (hB : ks.length < B) (R : Int)
    (H : ∀ k, B ≤ k → q03.l1 k (ns.length : Int) ((i + 1 : Nat) : Int) ns q = some R) (d : Nat) : ∀ (p k : Nat), p + d = ks.length → 2 * d + B < k →
    q03.l2 k (ns.length : Int) (i : Int) (p : Int) ns q = some (orE (kidsE ns (i : Int) (ks.take p) (ks.drop p)) R) := by
  induction d with
  | zero =>
    intro p k h hk
    obtain ⟨k, rfl⟩ : ∃ z, k = z + 1 := ⟨k - 1, by omega⟩
    rw [q03.l2, hks, if_pos (by omega), if_pos (by omega), if_neg (by omega), w1 i (by omega), H k (by omega), List.drop_eq_nil_of_le (by omega)]
    rfl
  | succ d ih =>
    intro p k h hk
    obtain ⟨k, rfl⟩ : ∃ z, k = z + 2 := ⟨k - 2, by omega⟩
    have hlt : p < ks.length := by omega
    have hi2 := ih (p + 1) k (by omega) (by omega)
    rw [takeK ks p hlt] at hi2
    obtain ⟨r, hr1, hr2⟩ := place_has (ks.take p) (rd ks (p : Int)) (by rw [List.length_take]; omega) (k + 1) (by rw [List.length_take]; omega)
    rw [q03.l2, hks, if_pos (by omega), if_pos (by omega), if_pos (by omega), if_pos (by omega), dropK ks p hlt, show ((p : Nat) : Int).toNat = p from rfl]
    obtain ⟨c, hcc⟩ : ∃ c, rd ks (p : Int) = c := ⟨_, rfl⟩
    rw [hcc] at hi2 hr1 ⊢
    rw [hcc] at hr2
    have hj : ∀ b, b = q2p ns (i : Int) (ks.take p) c → q03.j4 (k + 1) (ns.length : Int) (i : Int) (p : Int) c b ns q = some (orE (kidsE ns (i : Int) (ks.take p) (c :: ks.drop (p + 1))) R) := by
      rintro b rfl
      exact ref_j4 ns q i p c _ _ (by omega) R k hi2
    unfold q0p.f
    rw [wm ns.length (by omega)]
    by_cases c0 : c ≥ 0
    · rw [if_pos c0, Option.bind_some]
      by_cases c1 : c < (ns.length : Int)
      · rw [if_pos (decide_eq_true (by omega)), if_pos c0, if_pos c1]
        by_cases c2 : (q05 ns c).f4 = (i : Int)
        · rw [if_pos c2, if_pos (by omega), hr1, Option.bind_some]
          refine hj _ ?_
          rw [hr2]
          unfold q2p par
          rw [decide_eq_false (by omega), decide_eq_false (by omega), decide_eq_false (by simpa using c2)]
          simp
        · rw [if_neg c2]
          refine hj _ ?_
          unfold q2p par
          rw [decide_eq_true (p := (q05 ns c).f4 ≠ (i : Int)) c2]
          simp
      · rw [if_neg (by rw [decide_eq_false (by omega)]; exact Bool.false_ne_true)]
        refine hj _ ?_
        unfold q2p
        rw [decide_eq_true (p := c ≥ (ns.length : Int)) (by omega)]
        simp
    · rw [if_neg c0, Option.bind_some, if_neg Bool.false_ne_true]
      refine hj _ ?_
      unfold q2p
      rw [decide_eq_true (p := c < 0) (by omega)]
      simp
def kidsL (ns : List S43) : Nat → Nat → Int
  | 0, _ => 0
  | d + 1, i => orE (kidsE ns (i : Int) [] (kidL ns (i : Int))) (kidsL ns d (i + 1))
def parBad (ns : List S43) (i : Int) : Bool := decide (par ns i ≠ -1) && !(decide (0 ≤ par ns i) && (decide (par ns i < ns.length) && hasK (kidL ns (par ns i)) i))
def parsE (ns : List S43) : Nat → Nat → Int
  | 0, _ => if par ns 0 = -1 then 0 else 3
  | d + 1, i => if parBad ns (i : Int) = true then 3 else parsE ns d (i + 1)
def KidsLe (ns : List S43) (M : Nat) : Prop := ∀ i : Int, (kidL ns i).length ≤ M
theorem ref_l1 (ns : List S43) (q : Bool) (hl : ns.length ≤ 1000) (M : Nat) (hM : M ≤ 4611686018427387900) (hk : KidsLe ns M) (B : Nat) (hB : M < B) (R : Int)
    (H : ∀ k, B ≤ k → q03.l3 k (ns.length : Int) 0 ns q = some R) (d : Nat) : ∀ (i k : Nat), i + d = ns.length → (2 * M + 3) * d + B < k →
    q03.l1 k (ns.length : Int) (i : Int) ns q = some (orE (kidsL ns d i) R) := by
  induction d with
  | zero =>
    intro i k h hk
    obtain ⟨k, rfl⟩ : ∃ z, k = z + 1 := ⟨k - 1, by omega⟩
    rw [q03.l1, if_neg (by omega), H k (by omega)]
    rfl
  | succ d ih =>
    intro i k h hk'
    obtain ⟨k, rfl⟩ : ∃ z, k = z + 1 := ⟨k - 1, by omega⟩
    have e : (2 * M + 3) * (d + 1) = (2 * M + 3) * d + (2 * M + 3) := Nat.mul_succ _ _
    have hki := hk (i : Int)
    rw [q03.l1, if_pos (by omega)]
    have hr := refkids ns q hl i (by omega) (kidL ns (i : Int)) rfl (by omega) ((2 * M + 3) * d + B + 1) (by omega) (orE (kidsL ns d (i + 1)) R) (fun k hk => ih (i + 1) k (by omega) (by omega)) (kidL ns (i : Int)).length 0 k (by omega) (by omega)
    rw [List.take_zero, List.drop_zero] at hr
    rw [show ((0 : Nat) : Int) = 0 from rfl] at hr
    rw [hr]
    rw [show kidsL ns (d + 1) i = orE (kidsE ns (i : Int) [] (kidL ns (i : Int))) (kidsL ns d (i + 1)) from rfl]
    by_cases hz : kidsE ns (i : Int) [] (kidL ns (i : Int)) = 0
    · simp only [hz, orE_zero]
    · rw [orE_ne _ hz, orE_ne _ hz, orE_ne _ hz]
theorem ref_l3 (ns : List S43) (q : Bool) (hl : ns.length ≤ 1000) (h1 : 0 < ns.length) (M : Nat) (hM : M ≤ 4611686018427387900) (hk : KidsLe ns M) (B : Nat) (hB : M < B) (R : Int)
    (H : parsE ns ns.length 0 = 0 → ∀ k, B ≤ k → q03.l4 k (ns.length : Int) 0 ns q = some R) (d : Nat) : ∀ (i k : Nat), i + d = ns.length → parsE ns d i = parsE ns ns.length 0 → d + B < k →
    q03.l3 k (ns.length : Int) (i : Int) ns q = some (orE (parsE ns d i) R) := by
  induction d with
  | zero =>
    intro i k h hp hk
    obtain ⟨k, rfl⟩ : ∃ z, k = z + 1 := ⟨k - 1, by omega⟩
    rw [q03.l3, if_neg (by omega), if_pos (by omega)]
    by_cases c : (q05 ns 0).f4 = -1
    · have e : parsE ns 0 i = 0 := by unfold parsE par; rw [if_pos c]
      rw [if_pos c, e, orE_zero]
      exact H (by rw [← hp, e]) k (by omega)
    · have e : parsE ns 0 i = 3 := by unfold parsE par; rw [if_neg c]
      rw [if_neg c, e]
      rfl
  | succ d ih =>
    intro i k h hp hk'
    obtain ⟨k, rfl⟩ : ∃ z, k = z + 1 := ⟨k - 1, by omega⟩
    have e0 : parsE ns (d + 1) i = if parBad ns (i : Int) = true then 3 else parsE ns d (i + 1) := rfl
    rw [q03.l3, if_pos (by omega), if_pos (by omega), if_pos (by omega), w1 i (by omega), wm ns.length (by omega)]
    have good : parBad ns (i : Int) = false → q03.l3 k (ns.length : Int) ((i + 1 : Nat) : Int) ns q = some (orE (parsE ns (d + 1) i) R) := by
      intro hb
      rw [e0, if_neg (by rw [hb]; exact Bool.false_ne_true)] at hp ⊢
      exact ih (i + 1) k (by omega) hp (by omega)
    have bad : parBad ns (i : Int) = true → some (3 : Int) = some (orE (parsE ns (d + 1) i) R) := by
      intro hb
      rw [e0, if_pos hb]
      rfl
    show (if par ns (i : Int) = -1 then _ else _) = _
    by_cases c : par ns (i : Int) = -1
    · rw [if_pos c]
      exact good (by unfold parBad; rw [c]; rfl)
    · rw [if_neg c]
      unfold q0p.f
      show ((if par ns (i : Int) ≥ 0 then some (decide (par ns (i : Int) ≤ (ns.length : Int) - 1)) else some false).bind fun t143 => (if t143 = true then (if 0 ≤ par ns (i : Int) then (if par ns (i : Int) < (ns.length : Int) then ((q08.f k (kidL ns (par ns (i : Int))) (i : Int)).bind fun t145 => (if t145 < 0 then (some 3) else (q03.l3 k (ns.length : Int) ((i + 1 : Nat) : Int) ns q))) else (none)) else (none)) else (some 3))) = _
      by_cases c0 : par ns (i : Int) ≥ 0
      · rw [if_pos c0, Option.bind_some]
        by_cases c1 : par ns (i : Int) < (ns.length : Int)
        · rw [if_pos (decide_eq_true (by omega)), if_pos c0, if_pos c1]
          have hki := hk (par ns (i : Int))
          obtain ⟨r, hr1, hr2⟩ := place_has (kidL ns (par ns (i : Int))) (i : Int) (by omega) k (by omega)
          rw [hr1, Option.bind_some]
          have hpb : parBad ns (i : Int) = !(hasK (kidL ns (par ns (i : Int))) (i : Int)) := by
            unfold parBad
            rw [decide_eq_true c, decide_eq_true (p := 0 ≤ par ns (i : Int)) c0, decide_eq_true c1]
            simp
          by_cases c3 : r < 0
          · rw [if_pos c3]
            exact bad (by rw [hpb, ← hr2, decide_eq_false (by omega)]; rfl)
          · rw [if_neg c3]
            exact good (by rw [hpb, ← hr2, decide_eq_true (by omega)]; rfl)
        · rw [if_neg (by rw [decide_eq_false (by omega)]; exact Bool.false_ne_true)]
          exact bad (by unfold parBad; rw [decide_eq_true c, decide_eq_false c1]; simp)
      · rw [if_neg c0, Option.bind_some, if_neg Bool.false_ne_true]
        exact bad (by unfold parBad; rw [decide_eq_true c, decide_eq_false (p := 0 ≤ par ns (i : Int)) c0]; simp)
end Go.Proofs.YthjnallbbhnndaaDoor.Dm
namespace Go.Proofs.YthjnallbbhnndaaDoor.Dm
open Go Go.RowKit Go.Proofs.YthjnallbbhnndaaDoor.XWk Go.Proofs.YthjnallbbhnndaaDoorW.PrintWords Go.Proofs.YthjnallbbhnndaaDoorW.PrintLast
theorem seen_set (S : List Bool) (c x : Int) (hc : 0 ≤ c) (hc' : c < S.length) (hx : 0 ≤ x) : (rdOf false (S.set c.toNat true) x = true) ↔ (x = c ∨ rdOf false S x = true) := by
  unfold rdOf
  simp only [List.getD_eq_getElem?_getD, List.getElem?_set]
  by_cases h : x = c
  · subst h
    simp [show x.toNat < S.length by omega]
  · rw [if_neg (by omega)]
    simp [h]
theorem hasK_snoc (l : List Int) (c x : Int) : hasK (l ++ [c]) x = true ↔ (x = c ∨ hasK l x = true) := by
  unfold hasK
  simp only [List.any_append, List.any_cons, List.any_nil, Bool.or_false, Bool.or_eq_true, decide_eq_true_eq]
  constructor
  · rintro (h | h)
    · exact .inr h
    · exact .inl h.symm
  · rintro (h | h)
    · exact .inr h.symm
    · exact .inl h
def Ahead (ns : List S43) (i : Nat) : Prop := ∀ j : Nat, j < i → ∀ c, hasK (kidL ns (j : Int)) c = true → 0 ≤ c ∧ c < ns.length ∧ par ns c = (j : Int)
def Seen (ns : List S43) (S : List Bool) (i : Nat) (pre : List Int) : Prop := S.length = ns.length ∧ ∀ c : Int, 0 ≤ c → c < ns.length → (rdOf false S c = true ↔ ((∃ j : Nat, j < i ∧ hasK (kidL ns (j : Int)) c = true) ∨ hasK pre c = true))
theorem seen_same {ns : List S43} {S : List Bool} {i : Nat} {pre : List Int} (hs : Seen ns S i pre) (ha : Ahead ns i) {c : Int} (h0 : 0 ≤ c) (h1 : c < ns.length) (hp : par ns c = (i : Int)) : rdOf false S c = hasK pre c := by
  have h := hs.2 c h0 h1
  cases hb : hasK pre c
  · cases hr : rdOf false S c
    · rfl
    · exfalso
      rcases h.1 hr with ⟨j, hj, hk⟩ | hk
      · have := (ha j hj c hk).2.2
        omega
      · rw [hb] at hk
        cases hk
  · exact h.2 (.inr hb)
theorem kidsE_ok {ns : List S43} {i : Int} : ∀ {l pre : List Int}, kidsE ns i pre l = 0 → ∀ c ∈ l, 0 ≤ c ∧ c < ns.length ∧ par ns c = i
  | [], _, _, c, hc => by simp at hc
  | x :: t, pre, h, c, hc => by
    rw [kidsE_cons] at h
    by_cases hb : q2p ns i pre x = true
    · rw [if_pos hb] at h; cases h
    · rw [if_neg hb] at h
      have hr := kidBad_range hb
      by_cases h7 : i = 0 ∧ (q05 ns x).f0 = 3
      · rw [if_pos h7] at h; cases h
      · rw [if_neg h7] at h
        rcases List.mem_cons.1 hc with rfl | hc
        · exact ⟨hr.1, hr.2.1, hr.2.2.1⟩
        · exact kidsE_ok h c hc
theorem prog_j2 (ns : List S43) (q : Bool) (i p : Nat) (c : Int) (pre t ks : List Int) (S : List Bool) (hS : S.length = ns.length) (len : Int) (hp : p ≤ 4611686018427387903) (R : Int) (k : Nat)
    (hi : ¬ q2p ns (i : Int) pre c = true → ¬ ((i : Int) = 0 ∧ (q05 ns c).f0 = 3) → q0w.l1 k (S.set c.toNat true) (i : Int) ns (ns.length : Int) (i : Int) ks len ((p + 1 : Nat) : Int) ns q = some (orE (kidsE ns (i : Int) (pre ++ [c]) t) R)) :
    q0w.j2 (k + 1) S (i : Int) c ns (ns.length : Int) (i : Int) ks len (p : Int) (q2p ns (i : Int) pre c) ns q = some (orE (kidsE ns (i : Int) pre (c :: t)) R) := by
  rw [q0w.j2, kidsE_cons]
  by_cases hb : q2p ns (i : Int) pre c = true
  · rw [if_pos hb, if_pos hb]; rfl
  · rw [if_neg hb, if_neg hb]
    have hr := kidBad_range hb
    by_cases h0 : (i : Int) = 0
    · rw [if_pos h0, if_pos hr.1, if_pos hr.2.1]
      by_cases h3 : (q05 ns c).f0 = 3
      · rw [if_pos h3, if_pos ⟨h0, h3⟩]; rfl
      · rw [if_neg h3, if_pos (by rw [hS]; exact hr.2.1), if_neg (fun h => h3 h.2), w1 p (by omega), hi hb (fun h => h3 h.2)]
    · rw [if_neg h0, if_pos hr.1, if_pos (by rw [hS]; exact hr.2.1), if_neg (fun h => h0 h.1), w1 p (by omega), hi hb (fun h => h0 h.1)]
theorem prog_l1 (ns : List S43) (q : Bool) (hl : ns.length ≤ 1000) (i : Nat) (hi : i < ns.length) (ha : Ahead ns i) (ks : List Int) (hks : kidL ns (i : Int) = ks) (hc : ks.length ≤ 4611686018427387900) (B : Nat) (R : Int)
    (H : kidsE ns (i : Int) [] ks = 0 → ∀ S, Seen ns S (i + 1) [] → ∀ k, B ≤ k → q0w.l0 k S ns (ns.length : Int) ((i + 1 : Nat) : Int) ns q = some R) (d : Nat) : ∀ (p k : Nat) (S : List Bool), p + d = ks.length → Seen ns S i (ks.take p) →
    kidsE ns (i : Int) (ks.take p) (ks.drop p) = kidsE ns (i : Int) [] ks → 2 * d + B < k →
    q0w.l1 k S (i : Int) ns (ns.length : Int) (i : Int) ks (ks.length : Int) (p : Int) ns q = some (orE (kidsE ns (i : Int) (ks.take p) (ks.drop p)) R) := by
  induction d with
  | zero =>
    intro p k S h hs he hk
    obtain ⟨k, rfl⟩ : ∃ z, k = z + 1 := ⟨k - 1, by omega⟩
    rw [List.drop_eq_nil_of_le (by omega)] at he
    have he0 : kidsE ns (i : Int) [] ks = 0 := he.symm
    rw [List.take_of_length_le (by omega)] at hs
    rw [q0w.l1, if_neg (by omega), w1 i (by omega), List.drop_eq_nil_of_le (by omega)]
    refine (H he0 S ⟨hs.1, fun c h0 h1 => (hs.2 c h0 h1).trans ⟨?_, ?_⟩⟩ k (by omega)).trans rfl
    · rintro (⟨j, hj, hb⟩ | hb)
      · exact .inl ⟨j, by omega, hb⟩
      · exact .inl ⟨i, by omega, by rw [hks]; exact hb⟩
    · rintro (⟨j, hj, hb⟩ | hb)
      · by_cases e : j = i
        · subst e
          rw [hks] at hb
          exact .inr hb
        · exact .inl ⟨j, by omega, hb⟩
      · cases hb
  | succ d ih =>
    intro p k S h hs he hk
    obtain ⟨k, rfl⟩ : ∃ z, k = z + 2 := ⟨k - 2, by omega⟩
    have hlt : p < ks.length := by omega
    rw [q0w.l1, if_pos (by omega), if_pos (by omega), if_pos (by omega), dropK ks p hlt]
    rw [dropK ks p hlt] at he
    have ih' := ih (p + 1) k
    rw [takeK ks p hlt] at ih'
    obtain ⟨c, hcc⟩ : ∃ c, rd ks (p : Int) = c := ⟨_, rfl⟩
    rw [hcc] at ih' he ⊢
    have hj : ∀ b, b = q2p ns (i : Int) (ks.take p) c → q0w.j2 (k + 1) S (i : Int) c ns (ns.length : Int) (i : Int) ks (ks.length : Int) (p : Int) b ns q = some (orE (kidsE ns (i : Int) (ks.take p) (c :: ks.drop (p + 1))) R) := by
      rintro b rfl
      refine prog_j2 ns q i p c _ _ ks S hs.1 _ (by omega) R k fun hb h7 => ?_
      have hr := kidBad_range hb
      refine ih' (S.set c.toNat true) (by omega) ⟨by rw [List.length_set]; exact hs.1, fun x h0 h1 => ?_⟩ ?_ (by omega)
      · rw [seen_set S c x hr.1 (by rw [hs.1]; exact hr.2.1) h0, hs.2 x h0 h1, hasK_snoc]
        constructor
        · rintro (hx | hx | hx)
          · exact .inr (.inl hx)
          · exact .inl hx
          · exact .inr (.inr hx)
        · rintro (hx | hx | hx)
          · exact .inr (.inl hx)
          · exact .inl hx
          · exact .inr (.inr hx)
      · rw [kidsE_cons, if_neg hb, if_neg h7] at he
        exact he
    by_cases c0 : c < 0
    · rw [if_pos c0]
      refine hj _ ?_
      unfold q2p
      rw [decide_eq_true c0]
      simp
    rw [if_neg c0]
    by_cases c1 : c ≥ (ns.length : Int)
    · rw [if_pos (by rw [hs.1]; exact c1)]
      refine hj _ ?_
      unfold q2p
      rw [decide_eq_true c1]
      simp
    rw [if_neg (by rw [hs.1]; exact c1), if_pos (by omega), if_pos (by omega)]
    by_cases c2 : (q05 ns c).f4 = (i : Int)
    · rw [if_pos c2, if_pos (by rw [hs.1]; omega)]
      refine hj _ ?_
      rw [seen_same hs ha (by omega) (by omega) c2]
      unfold q2p par
      rw [decide_eq_false c0, decide_eq_false c1, decide_eq_false (by simpa using c2)]
      simp
    · rw [if_neg c2]
      refine hj _ ?_
      unfold q2p par
      rw [decide_eq_true (p := (q05 ns c).f4 ≠ (i : Int)) c2]
      simp
theorem prog_l2 (ns : List S43) (q : Bool) (hl : ns.length ≤ 1000) (h1 : 0 < ns.length) (ha : Ahead ns ns.length) (S : List Bool) (hs : Seen ns S ns.length []) (d : Nat) : ∀ (i k : Nat), i + d = ns.length → d < k →
    q0w.l2 k S ns (ns.length : Int) (i : Int) ns q = some (parsE ns d i) := by
  induction d with
  | zero =>
    intro i k h hk
    obtain ⟨k, rfl⟩ : ∃ z, k = z + 1 := ⟨k - 1, by omega⟩
    rw [q0w.l2, if_neg (by omega), if_pos (by omega)]
    unfold parsE par
    split <;> rfl
  | succ d ih =>
    intro i k h hk
    obtain ⟨k, rfl⟩ : ∃ z, k = z + 1 := ⟨k - 1, by omega⟩
    rw [q0w.l2, if_pos (by omega), if_pos (by omega), if_pos (by omega), w1 i (by omega), ih (i + 1) k (by omega) (by omega)]
    rw [show parsE ns (d + 1) i = if parBad ns (i : Int) = true then 3 else parsE ns d (i + 1) from rfl]
    show (if par ns (i : Int) = -1 then _ else _) = _
    by_cases c : par ns (i : Int) = -1
    · rw [if_pos c, if_neg (by unfold parBad; rw [c]; simp)]
    · rw [if_neg c, if_pos (by rw [hs.1]; omega)]
      have hh := hs.2 (i : Int) (by omega) (by omega)
      by_cases hr : rdOf false S (i : Int) = true
      · rw [if_pos hr]
        rcases hh.1 hr with ⟨j, hj, hk⟩ | hk
        · have hp := (ha j hj (i : Int) hk).2.2
          rw [if_neg]
          unfold parBad
          rw [hp, hk, decide_eq_true (p := 0 ≤ ((j : Nat) : Int)) (by omega), decide_eq_true (p := ((j : Nat) : Int) < (ns.length : Int)) (by omega)]
          simp
        · cases hk
      · rw [if_neg hr, if_pos]
        unfold parBad
        rw [decide_eq_true c, Bool.true_and]
        by_cases c0 : 0 ≤ par ns (i : Int)
        · by_cases c1 : par ns (i : Int) < (ns.length : Int)
          · cases hb : hasK (kidL ns (par ns (i : Int))) (i : Int)
            · simp
            · exfalso
              refine hr (hh.2 (.inl ⟨(par ns (i : Int)).toNat, by omega, ?_⟩))
              rw [show (((par ns (i : Int)).toNat : Nat) : Int) = par ns (i : Int) by omega]
              exact hb
          · rw [decide_eq_false c1]; simp
        · rw [decide_eq_false c0]; simp
theorem prog_l0 (ns : List S43) (q : Bool) (hl : ns.length ≤ 1000) (h1 : 0 < ns.length) (M : Nat) (hM : M ≤ 4611686018427387900) (hk : KidsLe ns M) (d : Nat) : ∀ (i k : Nat) (S : List Bool), i + d = ns.length → Seen ns S i [] → Ahead ns i → (2 * M + 3) * d + ns.length + 1 < k →
    q0w.l0 k S ns (ns.length : Int) (i : Int) ns q = some (orE (kidsL ns d i) (parsE ns ns.length 0)) := by
  induction d with
  | zero =>
    intro i k S h hs ha hk
    obtain ⟨k, rfl⟩ : ∃ z, k = z + 1 := ⟨k - 1, by omega⟩
    obtain rfl : i = ns.length := by omega
    rw [q0w.l0, if_neg (by omega)]
    exact prog_l2 ns q hl h1 ha S hs ns.length 0 k (by omega) (by omega)
  | succ d ih =>
    intro i k S h hs ha hk'
    obtain ⟨k, rfl⟩ : ∃ z, k = z + 1 := ⟨k - 1, by omega⟩
    have e : (2 * M + 3) * (d + 1) = (2 * M + 3) * d + (2 * M + 3) := Nat.mul_succ _ _
    have hki := hk (i : Int)
    rw [q0w.l0, if_pos (by omega), if_pos (by omega), if_pos (by omega)]
    have hr := prog_l1 ns q hl i (by omega) ha (kidL ns (i : Int)) rfl (by omega) ((2 * M + 3) * d + ns.length + 2) (orE (kidsL ns d (i + 1)) (parsE ns ns.length 0)) (fun he S hs k hk => ih (i + 1) k S (by omega) hs (fun j hj c hc => by
        by_cases e : j = i
        · subst e
          unfold hasK at hc
          obtain ⟨y, hy, hyc⟩ := List.any_eq_true.1 hc
          obtain rfl := of_decide_eq_true hyc
          exact kidsE_ok he y hy
        · exact ha j (by omega) c hc) (by omega)) (kidL ns (i : Int)).length 0 k S (by omega) hs rfl (by omega)
    rw [List.take_zero, List.drop_zero, show ((0 : Nat) : Int) = 0 from rfl] at hr
    refine hr.trans ?_
    rw [show kidsL ns (d + 1) i = orE (kidsE ns (i : Int) [] (kidL ns (i : Int))) (kidsL ns d (i + 1)) from rfl]
    by_cases hz : kidsE ns (i : Int) [] (kidL ns (i : Int)) = 0
    · simp only [hz, orE_zero]
    · rw [orE_ne _ hz, orE_ne _ hz, orE_ne _ hz]
def kidsAll (ns : List S43) : Int := orE (kidsL ns ns.length 0) (parsE ns ns.length 0)
theorem kids_eq (ns : List S43) (q : Bool) (hl : ns.length ≤ 1000) (h1 : 0 < ns.length) (M : Nat) (hM : M ≤ 4611686018427387900) (hk : KidsLe ns M) (k : Nat) (hk' : (2 * M + 3) * ns.length + ns.length + 1 < k) :
    q0w.f k ns q = some (kidsAll ns) := by
  unfold q0w.f
  rw [if_pos (by omega), if_pos (by omega)]
  refine (prog_l0 ns q hl h1 M hM hk ns.length 0 k _ (by omega) ⟨by simp, fun c h0 h1 => ?_⟩ (fun j hj => by omega) hk').trans rfl
  have e : rdOf false (List.replicate ((ns.length : Int) : Int).toNat false) c = false := by
    unfold rdOf
    simp [List.getD_eq_getElem?_getD, List.getElem?_replicate]
    split <;> rfl
  rw [e]
  constructor
  · intro h; cases h
  · rintro (⟨j, hj, _⟩ | h)
    · omega
    · cases h
end Go.Proofs.YthjnallbbhnndaaDoor.Dm
namespace Go.Proofs.YthjnallbbhnndaaDoor.Dm
open Go Go.RowKit Go.Proofs.YthjnallbbhnndaaDoor.XWk Go.Proofs.YthjnallbbhnndaaDoorW.PrintWords Go.Proofs.YthjnallbbhnndaaDoorW.PrintLast
def rootBad (ns : List S43) (i : Nat) : Bool := decide ((q05 ns (i : Int)).f0 = 1) != decide (i = 0)
def nodesE (ns : List S43) : Nat → Nat → Int
  | 0, _ => 0
  | d + 1, i => if rootBad ns i = true then 3 else orE (nodeE (q05 ns (i : Int))) (nodesE ns d (i + 1))
theorem nodesE_succ (ns : List S43) (d i : Nat) : nodesE ns (d + 1) i = if rootBad ns i = true then 3 else orE (nodeE (q05 ns (i : Int))) (nodesE ns d (i + 1)) := rfl
def q1s (ns : List S43) (i : Int) : Nat := q2u ns (ns.length + 1) i
def upsE (ns : List S43) : Nat → Nat → Int
  | 0, _ => 0
  | d + 1, i => if ns.length < q1s ns (i : Int) then 8 else if 40 < q1s ns (i : Int) then 2 else upsE ns d (i + 1)
theorem upsE_succ (ns : List S43) (d i : Nat) : upsE ns (d + 1) i = if ns.length < q1s ns (i : Int) then 8 else if 40 < q1s ns (i : Int) then 2 else upsE ns d (i + 1) := rfl
def docE (ns : List S43) : Int :=
  if 200 < ns.length then 2 else if ns.length = 0 then 3 else orE (nodesE ns ns.length 0) (orE (kidsAll ns) (upsE ns ns.length 0))
def SmallN (ns : List S43) : Prop := ∀ i : Int, smallA (q05 ns i).f2 ∧ (q05 ns i).f1.size ≤ 140737488355328
theorem parsE_ok {ns : List S43} : ∀ {d i : Nat}, parsE ns d i = 0 → par ns 0 = -1 ∧ ∀ j : Nat, i ≤ j → j < i + d → parBad ns (j : Int) = false
  | 0, i, h => by
    unfold parsE at h
    by_cases c : par ns 0 = -1
    · exact ⟨c, fun j h1 h2 => by omega⟩
    · rw [if_neg c] at h; cases h
  | d + 1, i, h => by
    rw [show parsE ns (d + 1) i = if parBad ns (i : Int) = true then 3 else parsE ns d (i + 1) from rfl] at h
    by_cases c : parBad ns (i : Int) = true
    · rw [if_pos c] at h; cases h
    · rw [if_neg c] at h
      obtain ⟨h1, h2⟩ := parsE_ok h
      refine ⟨h1, fun j h3 h4 => ?_⟩
      by_cases e : j = i
      · subst e; simpa using c
      · exact h2 j (by omega) (by omega)
theorem orE_eq_zero {a b : Int} (h : orE a b = 0) : a = 0 ∧ b = 0 := by
  unfold orE at h
  by_cases c : a = 0
  · simp [c] at h; exact ⟨c, h⟩
  · rw [if_pos c] at h; exact absurd h c
theorem parBad_ok {ns : List S43} {i : Int} (h : parBad ns i = false) : par ns i = -1 ∨ (0 ≤ par ns i ∧ par ns i < ns.length ∧ hasK (kidL ns (par ns i)) i = true) := by
  unfold parBad at h
  by_cases c : par ns i = -1
  · exact .inl c
  · right
    simp [c] at h
    exact ⟨h.1, h.2.1, h.2.2⟩
theorem inR_of {ns : List S43} (h : parsE ns ns.length 0 = 0) : InR ns := by
  intro i h0 h1
  have := (parsE_ok h).2 i.toNat (Nat.zero_le _) (by omega)
  rw [show ((i.toNat : Nat) : Int) = i by omega] at this
  rcases parBad_ok this with h | h
  · omega
  · exact h.2.1
theorem prog_ups (ns : List S43) (q : Bool) (hl : ns.length ≤ 1000) (hr : InR ns) (d : Nat) : ∀ (i k : Nat), i + d = ns.length → d + ns.length + 2 < k → q1a.l1 k (ns.length : Int) (i : Int) ns q = some (upsE ns d i) := by
  induction d with
  | zero =>
    intro i k h hk
    obtain ⟨k, rfl⟩ : ∃ z, k = z + 1 := ⟨k - 1, by omega⟩
    rw [q1a.l1, if_neg (by omega)]
    rfl
  | succ d ih =>
    intro i k h hk
    obtain ⟨k, rfl⟩ : ∃ z, k = z + 1 := ⟨k - 1, by omega⟩
    rw [q1a.l1, if_pos (by omega), up_eq ns q hl hr (i : Int) (by omega) (by omega) k (by omega), Option.bind_some, w1 i (by omega), ih (i + 1) k (by omega) (by omega), upsE_succ]
    unfold q1s
    by_cases c : ns.length < q2u ns (ns.length + 1) (i : Int)
    · rw [if_pos (by omega), if_pos c]
    · rw [if_neg (by omega), if_neg c]
      by_cases c' : 40 < q2u ns (ns.length + 1) (i : Int)
      · rw [if_pos (by omega), if_pos c']
      · rw [if_neg (by omega), if_neg c']
theorem ref_ups (ns : List S43) (q : Bool) (hl : ns.length ≤ 1000) (hr : InR ns) (d : Nat) : ∀ (i k : Nat), i + d = ns.length → d + ns.length + 2 < k → q03.l4 k (ns.length : Int) (i : Int) ns q = some (upsE ns d i) := by
  induction d with
  | zero =>
    intro i k h hk
    obtain ⟨k, rfl⟩ : ∃ z, k = z + 1 := ⟨k - 1, by omega⟩
    rw [q03.l4, if_neg (by omega)]
    rfl
  | succ d ih =>
    intro i k h hk
    obtain ⟨k, rfl⟩ : ∃ z, k = z + 1 := ⟨k - 1, by omega⟩
    rw [q03.l4, if_pos (by omega), deep_eq ns q hl hr (i : Int) (by omega) (by omega) k (by omega), Option.bind_some, w1 i (by omega), ih (i + 1) k (by omega) (by omega), upsE_succ]
    unfold q1s
    by_cases c : ns.length < q2u ns (ns.length + 1) (i : Int)
    · rw [if_pos c, if_pos c, if_pos (by omega)]
    · rw [if_neg c, if_neg c, if_neg (by omega)]
      by_cases c' : 40 < q2u ns (ns.length + 1) (i : Int)
      · rw [if_pos (by omega), if_pos c']
      · rw [if_neg (by omega), if_neg c']
def rounds (ns : List S43) (M : Nat) : Nat := (2 * M + 3) * ns.length + 3 * ns.length + M + 1300
theorem prog_nodes (ns : List S43) (q : Bool) (hl : ns.length ≤ 200) (h1 : 0 < ns.length) (hs : SmallN ns) (M : Nat) (hM : M ≤ 4611686018427387900) (hk : KidsLe ns M) (d : Nat) : ∀ (i k : Nat), i + d = ns.length → d + rounds ns M < k →
    q1a.l0 k ns (ns.length : Int) (i : Int) ns q = some (orE (nodesE ns d i) (orE (kidsAll ns) (upsE ns ns.length 0))) := by
  induction d with
  | zero =>
    intro i k h hk'
    obtain ⟨k, rfl⟩ : ∃ z, k = z + 1 := ⟨k - 1, by omega⟩
    unfold rounds at hk'
    rw [q1a.l0, if_neg (by omega), kids_eq ns q (by omega) h1 M hM hk k (by omega), Option.bind_some]
    show _ = some (orE 0 _)
    rw [orE_zero]
    by_cases c : kidsAll ns = 0
    · rw [if_pos c, c, orE_zero]
      have hr : InR ns := inR_of (orE_eq_zero c).2
      exact prog_ups ns q (by omega) hr ns.length 0 k (by omega) (by omega)
    · rw [if_neg c, orE_ne _ c]
  | succ d ih =>
    intro i k h hk'
    obtain ⟨k, rfl⟩ : ∃ z, k = z + 1 := ⟨k - 1, by omega⟩
    have hrd : 1300 ≤ rounds ns M := by unfold rounds; omega
    rw [q1a.l0, if_pos (by omega), if_pos (by omega), if_pos (by omega), w1 i (by omega), ih (i + 1) k (by omega) (by omega), nodesE_succ]
    obtain ⟨x, hx⟩ : ∃ x, q05 ns (i : Int) = x := ⟨_, rfl⟩
    have hsx := hs (i : Int)
    rw [hx] at hsx
    have eb : (((q05 ns (i : Int)).f0 == 1) != ((i : Int) == 0)) = rootBad ns i := by
      unfold rootBad
      rw [show ((q05 ns (i : Int)).f0 == 1) = decide ((q05 ns (i : Int)).f0 = 1) from rfl]
      congr 1
      rw [Bool.eq_iff_iff]
      simp
    rw [eb, hx]
    by_cases c : rootBad ns i = true
    · rw [if_pos c, if_pos c]; rfl
    · rw [if_neg c, if_neg c, one_eq x hsx.1 hsx.2 k (by omega), Option.bind_some]
      by_cases c2 : nodeE x = 0
      · rw [if_pos c2, c2, orE_zero]
      · rw [if_neg c2, orE_ne _ c2, orE_ne _ c2]
theorem ref_nodes (ns : List S43) (q : Bool) (hl : ns.length ≤ 200) (h1 : 0 < ns.length) (M : Nat) (hM : M ≤ 4611686018427387900) (hk : KidsLe ns M) (d : Nat) : ∀ (i k : Nat), i + d = ns.length → 2 * d + rounds ns M < k →
    q03.l0 k (ns.length : Int) (i : Int) ns q = some (orE (nodesE ns d i) (orE (kidsAll ns) (upsE ns ns.length 0))) := by
  induction d with
  | zero =>
    intro i k h hk'
    obtain ⟨k, rfl⟩ : ∃ z, k = z + 1 := ⟨k - 1, by omega⟩
    unfold rounds at hk'
    rw [q03.l0, if_neg (by omega)]
    show _ = some (orE 0 _)
    rw [orE_zero]
    have h3 := ref_l3 ns q (by omega) h1 M hM hk (M + 2 * ns.length + 3) (by omega) (upsE ns ns.length 0) (fun hz k hk => ref_ups ns q (by omega) (inR_of hz) ns.length 0 k (by omega) (by omega)) ns.length 0
    have h2 := ref_l1 ns q (by omega) M hM hk (M + 3 * ns.length + 4) (by omega) (orE (parsE ns ns.length 0) (upsE ns ns.length 0)) (fun k hk => h3 k (by omega) rfl (by omega)) ns.length 0 k (by omega) (by omega)
    refine h2.trans ?_
    unfold kidsAll
    by_cases c : kidsL ns ns.length 0 = 0
    · rw [c, orE_zero, orE_zero]
    · rw [orE_ne _ c, orE_ne _ c, orE_ne _ c]
  | succ d ih =>
    intro i k h hk'
    obtain ⟨k, rfl⟩ : ∃ z, k = z + 2 := ⟨k - 2, by omega⟩
    have hrd : 1300 ≤ rounds ns M := by unfold rounds; omega
    obtain ⟨x, hx⟩ : ∃ x, q05 ns (i : Int) = x := ⟨_, rfl⟩
    have hj : q03.j1 (k + 1) (ns.length : Int) (i : Int) (rootBad ns i) ns q = some (orE (nodesE ns (d + 1) i) (orE (kidsAll ns) (upsE ns ns.length 0))) := by
      rw [q03.j1, nodesE_succ, hx]
      by_cases c : rootBad ns i = true
      · rw [if_pos c, if_pos c]; rfl
      · rw [if_neg c, if_neg c, if_pos (by omega), if_pos (by omega), w1 i (by omega), ih (i + 1) k (by omega) (by omega), nodeErr_eq x k (by omega), Option.bind_some]
        by_cases c2 : nodeE x = 0
        · rw [if_pos c2, c2, orE_zero]
        · rw [if_neg c2, orE_ne _ c2, orE_ne _ c2]
    rw [q03.l0, if_pos (by omega)]
    have eb : (((q05 ns (i : Int)).f0) == 1) = decide ((q05 ns (i : Int)).f0 = 1) := rfl
    by_cases c0 : i = 0
    · rw [if_pos (by omega), if_pos (by omega), if_pos (by omega)]
      have er : rootBad ns i = !decide ((q05 ns (i : Int)).f0 = 1) := by unfold rootBad; rw [decide_eq_true c0]; simp
      by_cases c1 : (q05 ns (i : Int)).f0 = 1
      · rw [if_pos c1, if_neg (by omega)]
        rw [er, decide_eq_true c1] at hj
        exact hj
      · rw [if_neg c1]
        rw [er, decide_eq_false c1] at hj
        exact hj
    · rw [if_neg (by omega), if_pos (by omega), if_pos (by omega), if_pos (by omega)]
      have er : rootBad ns i = decide ((q05 ns (i : Int)).f0 = 1) := by unfold rootBad; rw [decide_eq_false c0]; simp
      rw [eb, ← er]
      exact hj
theorem check_eq (ns : List S43) (q : Bool) (hs : SmallN ns) (M : Nat) (hM : M ≤ 4611686018427387900) (hk : KidsLe ns M) (k : Nat) (hk' : 2 * ns.length + rounds ns M < k) : q1a.f k ns q = some (docE ns) := by
  unfold q1a.f docE
  by_cases c : 200 < ns.length
  · rw [if_pos (by omega), if_pos c]
  · rw [if_neg (by omega), if_neg c]
    by_cases c0 : ns.length = 0
    · rw [if_pos (by omega), if_pos c0]
    · rw [if_neg (by omega), if_neg c0]
      exact prog_nodes ns q (by omega) (by omega) hs M hM hk ns.length 0 k (by omega) (by omega)
theorem docErr_eq (ns : List S43) (q : Bool) (M : Nat) (hM : M ≤ 4611686018427387900) (hk : KidsLe ns M) (k : Nat) (hk' : 2 * ns.length + rounds ns M < k) : q03.f k ns q = some (docE ns) := by
  unfold q03.f docE
  by_cases c : 200 < ns.length
  · rw [if_pos (by omega), if_pos c]
  · rw [if_neg (by omega), if_neg c]
    by_cases c0 : ns.length = 0
    · rw [if_pos (by omega), if_pos c0]
    · rw [if_neg (by omega), if_neg c0]
      exact ref_nodes ns q (by omega) (by omega) M hM hk ns.length 0 k (by omega) (by omega)
end Go.Proofs.YthjnallbbhnndaaDoor.Dm
namespace Go.Proofs.YthjnallbbhnndaaDoor.Rd
open Go.ChangeShapes Go.WideShapes Go.ChangeAt Go.RowKit Go.Proofs.YthjnallbbhnndaaDoorW.PrintWords
def Reads {α : Type} (P : Program) (t : TypeId) (k : Kd α) (Q : α → Prop) : Prop :=
  P.cellsOf t = k.sz ∧ ∀ (H : Type) (enc : TypeId × Value → H) (w : World) (fuel : Nat) (cs : List Value) (x : DataW H × List MemPlace),
    DataW.trod enc P w 0 (fun _ => true) true fuel t cs = some x → (∀ n ∈ x.1.weights P t, n ≤ reachBytes) → ∃ a : α, k.K w a cs ∧ Q a
variable {P : Program} {t : TypeId}
theorem Reads.imp {α : Type} {k : Kd α} {Q Q' : α → Prop} (h : Reads P t k Q) (hq : ∀ a, Q a → Q' a) : Reads P t k Q' := by
  refine ⟨h.1, fun H enc w fuel cs x hx hw => ?_⟩
  obtain ⟨a, ha, hq'⟩ := h.2 H enc w fuel cs x hx hw
  exact ⟨a, ha, hq a hq'⟩
theorem reads_int {k : IntKind} (ht : P.underlying t = some (.int k)) (hc : P.cellsOf t = 1) : Reads P t (Kd.int k) (fun n => (Lit.int k n).wf = true) := by
  refine ⟨hc, fun H enc w fuel cs x hx _ => ?_⟩
  obtain ⟨n, rfl, _, hw⟩ := DataW.trod_int ht hx
  exact ⟨n, rfl, hw⟩
theorem reads_bool (ht : P.underlying t = some .bool) (hc : P.cellsOf t = 1) : Reads P t Kd.bool (fun _ => True) := by
  refine ⟨hc, fun H enc w fuel cs x hx _ => ?_⟩
  obtain ⟨b, rfl, _⟩ := DataW.trod_bool ht hx
  exact ⟨b, rfl, trivial⟩
theorem reads_string (ht : P.underlying t = some .string) (hc : P.cellsOf t = 1) : Reads P t Kd.string (fun s => s.size ≤ reachBytes) := by
  refine ⟨hc, fun H enc w fuel cs x hx hw => ?_⟩
  obtain ⟨s, rfl, rfl, _⟩ := DataW.trod_string ht hx
  exact ⟨s, rfl, by simpa [DataW.weights] using hw⟩
theorem weightsAll_mem {H : Type} {e : TypeId} : ∀ {l : List (DataW H)} {d : DataW H}, d ∈ l → ∀ n ∈ d.weights P e, n ∈ DataW.weightsAll P e l
  | a :: l, d, hd, n, hn => by
    unfold DataW.weightsAll
    rcases List.mem_cons.1 hd with rfl | h
    · exact List.mem_append_left _ hn
    · exact List.mem_append_right _ (weightsAll_mem h n hn)
theorem choose_list {α : Type} {p : Nat → α → Prop} : ∀ (n : Nat), (∀ i, i < n → ∃ a, p i a) → ∃ l : List α, l.length = n ∧ ∀ i a, l[i]? = some a → p i a
  | 0, _ => ⟨[], rfl, fun i a h => by simp at h⟩
  | n + 1, h => by
    obtain ⟨l, hl, hp⟩ := choose_list n (fun i hi => h i (by omega))
    obtain ⟨a, ha⟩ := h n (by omega)
    refine ⟨l ++ [a], by simp [hl], fun i b hb => ?_⟩
    by_cases hi : i < l.length
    · rw [List.getElem?_append_left hi] at hb
      exact hp i b hb
    · have := (List.getElem?_eq_some_iff.1 hb).1
      simp at this
      have e : i = l.length := by omega
      subst e
      simp at hb
      subst hb
      rw [hl]
      exact ha
theorem reads_slice {e : TypeId} {α : Type} {k : Kd α} {Q : α → Prop} (ht : P.underlying t = some (.slice e)) (hc : P.cellsOf t = 1) (he : Reads P e k Q) :
    Reads P t (Kd.slice e k) (fun l => l.length * P.bytesOf e ≤ reachBytes ∧ l.length ≤ 9223372036854775807 ∧ ∀ a ∈ l, Q a) := by
  refine ⟨hc, fun H enc w fuel cs x hx hw => ?_⟩
  rcases DataW.trod_slice ht hx with ⟨rfl, rfl⟩ | ⟨a, len, cap, elems, rest, n, _, rfl, rfl, _, hl, hm, hlen, hel, _, _⟩
  · exact ⟨[], ⟨none, 0, rfl, Nat.le_refl _, ⟨rfl, by simp, fun h => absurd h (by simp)⟩⟩, by simp, by simp, by simp⟩
  · have hw' : ∀ m ∈ ((elems.map (·.1)).length + (rest.map (·.1)).length) * P.bytesOf e :: (DataW.weightsAll P e (elems.map (·.1)) ++ DataW.weightsAll P e (rest.map (·.1))), m ≤ reachBytes := by
      have := hw
      unfold DataW.weights at this
      rw [ht] at this
      exact this
    have each : ∀ i, i < len → ∃ b, (∃ c, w.cells? 0 (a.add (i * P.cellsOf e)) (P.cellsOf e) = some c ∧ k.K w b c) ∧ Q b := by
      intro i hi
      have h1 := hel i hi
      have hi' : i < elems.length := by omega
      rw [List.getElem?_eq_getElem hi', Option.bind_eq_some_iff] at h1
      obtain ⟨c, hcs, hy⟩ := h1
      obtain ⟨b, hb, hq⟩ := he.2 H enc w n c _ hy (fun m hm' => hw' m (List.mem_cons_of_mem _ (List.mem_append_left _ (weightsAll_mem (List.mem_map.2 ⟨_, List.getElem_mem hi', rfl⟩) m hm'))))
      exact ⟨b, ⟨c, hcs, hb⟩, hq⟩
    obtain ⟨l, hll, hp⟩ := choose_list len each
    have hmax : len ≤ 9223372036854775807 := by unfold maxLen at hm; omega
    refine ⟨l, ⟨some a, cap, by rw [hll], by omega, ⟨rfl, by omega, fun _ => ⟨a, rfl, fun j p hj => ?_⟩⟩⟩, ?_, by omega, fun b hb => ?_⟩
    · obtain ⟨⟨c, hcs, hb⟩, _⟩ := hp j p hj
      refine ⟨c, k.K_len hb, hb, fun i u hu => ?_⟩
      obtain ⟨_, hlen', hcell⟩ := World.cells?_some hcs
      have hi := (List.getElem?_eq_some_iff.1 hu).1
      have := hcell i (by omega)
      rw [hu, Go.Deep.add_add] at this
      rw [← he.1]
      exact this
    · have := hw' _ (List.mem_cons_self ..)
      simp only [List.length_map] at this
      rw [hll, ← hlen]
      exact Nat.le_trans (Nat.mul_le_mul_right _ (Nat.le_add_right _ _)) this
    · obtain ⟨i, hi⟩ := List.getElem?_of_mem hb
      exact (hp i b hi).2
def ReadsF {α : Type} (P : Program) (fs : List Field) (off : Nat) (k : Kd α) (Q : α → Prop) : Prop :=
  ∀ (H : Type) (enc : TypeId × Value → H) (w : World) (n : Nat) (cs : List Value) (xs : List (DataW H × List MemPlace)), xs.length = fs.length →
    (∀ (i : Nat) (f : Field), fs[i]? = some f → DataW.trod enc P w 0 (fun _ => true) true n f.type ((cs.drop f.offset).take (P.cellsOf f.type)) = xs[i]?) →
    (∀ m ∈ DataW.weightsEach P (fs.map (·.type)) (xs.map (·.1)), m ≤ reachBytes) → cs.length = off + k.sz → ∃ a : α, k.K w a (cs.drop off) ∧ Q a
theorem readsF_one {f : Field} {off : Nat} {α : Type} {k : Kd α} {Q : α → Prop} (hf : f.offset = off) (h : Reads P f.type k Q) : ReadsF P [f] off k Q := by
  intro H enc w n cs xs hl hx hw hc
  obtain ⟨y, rfl⟩ : ∃ y, xs = [y] := by
    match xs, hl with
    | [y], _ => exact ⟨y, rfl⟩
  have h1 := hx 0 f rfl
  rw [hf, h.1, List.take_of_length_le (by rw [List.length_drop]; omega)] at h1
  exact h.2 H enc w n _ y h1 (fun m hm => hw m (by simp [DataW.weightsEach, hm]))
theorem readsF_cons {f : Field} {fs : List Field} {off : Nat} {α β : Type} {k1 : Kd α} {k2 : Kd β} {Q1 : α → Prop} {Q2 : β → Prop} (hf : f.offset = off) (h : Reads P f.type k1 Q1) (hr : ReadsF P fs (off + k1.sz) k2 Q2) :
    ReadsF P (f :: fs) off (Kd.pair k1 k2) (fun p => Q1 p.1 ∧ Q2 p.2) := by
  intro H enc w n cs xs hl hx hw hc
  obtain ⟨y, ys, rfl⟩ : ∃ y ys, xs = y :: ys := by
    match xs, hl with
    | y :: ys, _ => exact ⟨y, ys, rfl⟩
  have h1 := hx 0 f rfl
  rw [hf, h.1] at h1
  have hsz : (Kd.pair k1 k2).sz = k1.sz + k2.sz := rfl
  obtain ⟨a, ha, hqa⟩ := h.2 H enc w n _ y h1 (fun m hm => hw m (by simp [DataW.weightsEach, hm]))
  obtain ⟨b, hb, hqb⟩ := hr H enc w n cs ys (by simpa using hl) (fun i g hg => by simpa using hx (i + 1) g (by simpa using hg)) (fun m hm => hw m (by simp [DataW.weightsEach]; exact .inr (by simpa using hm))) (by omega)
  refine ⟨(a, b), ⟨_, _, ?_, ha, hb⟩, hqa, hqb⟩
  rw [← List.drop_drop, List.take_append_drop]
theorem reads_struct {fs : Array Field} {α : Type} {k : Kd α} {Q : α → Prop} (ht : P.underlying t = some (.struct fs)) (hc : P.cellsOf t = k.sz) (h : ReadsF P fs.toList 0 k Q) : Reads P t k Q := by
  refine ⟨hc, fun H enc w fuel cs x hx hw => ?_⟩
  obtain ⟨xs, n, _, rfl, hl, hlen, hf⟩ := DataW.trod_struct ht hx
  have := h H enc w n cs xs (by simpa using hlen) (fun i f hi => hf i f (by simpa using hi)) (fun m hm => hw m (by unfold DataW.weights; rw [ht]; exact hm)) (by omega)
  simpa using this
theorem Reads.iso {α β : Type} {k : Kd α} {Q : α → Prop} (h : Reads P t k Q) (f : β → α) (g : α → β) (hg : ∀ a, f (g a) = a) : Reads P t (Kd.iso k f) (fun b => Q (f b)) := by
  refine ⟨h.1, fun H enc w fuel cs x hx hw => ?_⟩
  obtain ⟨a, ha, hq⟩ := h.2 H enc w fuel cs x hx hw
  exact ⟨g a, by show k.K w (f (g a)) cs; rw [hg]; exact ha, by show Q (f (g a)); rw [hg]; exact hq⟩
theorem open_slice_arg {H : Type} {enc : TypeId × Value → H} {r : Reach} {b0 : Nat} {w : World} {e : TypeId} {α : Type} {k : Kd α} {Q : List α → Prop} {v : Value} {d : DataW H} {p : List MemPlace}
    (hr : Reads P t (Kd.slice e k) Q) (ht : P.underlying t = some (.slice e)) (hv : Value.okWide P w r b0 t v) (h : DataW.Trod enc P w 0 (fun _ => true) true t v d p) (hw : ∀ n ∈ d.weights P t, n ≤ reachBytes) :
    ∃ (A : Option Addr) (c : Nat) (l : List α), v = .slice A l.length c ∧ l.length ≤ c ∧ Kd.C k w A l.length l ∧ Q l := by
  obtain ⟨a0, len, cap, rfl⟩ := okWide_slice ht hv
  obtain ⟨fuel, hf⟩ := h
  obtain ⟨l, ⟨A, c, hcs, hlc, hC⟩, hq⟩ := hr.2 H enc w fuel _ _ hf hw
  simp only [Value.cells, List.cons.injEq, and_true] at hcs
  exact ⟨A, c, l, hcs, hlc, hC, hq⟩
theorem open_struct_arg {H : Type} {enc : TypeId × Value → H} {r : Reach} {b0 : Nat} {w : World} {fs : Array Field} {α : Type} {k : Kd α} {Q : α → Prop} {v : Value} {d : DataW H} {p : List MemPlace}
    (hr : Reads P t k Q) (ht : P.underlying t = some (.struct fs)) (hv : Value.okWide P w r b0 t v) (h : DataW.Trod enc P w 0 (fun _ => true) true t v d p) (hw : ∀ n ∈ d.weights P t, n ≤ reachBytes) :
    ∃ (cs : List Value) (x : α), v = .agg ⟨cs⟩ ∧ k.K w x cs ∧ Q x := by
  obtain ⟨cs, rfl, _⟩ := okWide_struct ht hv
  obtain ⟨fuel, hf⟩ := h
  obtain ⟨x, hx, hq⟩ := hr.2 H enc w fuel _ _ hf hw
  exact ⟨cs.toList, x, rfl, hx, hq⟩
theorem weights_arg {H : Type} {ts : List TypeId} {ds : List (DataW H)} (h : (DataW.weightsEach P ts ds).all (· ≤ reachBytes) = true) {j : Nat} {d : DataW H} (ht : ts[j]? = some t) (hd : ds[j]? = some d) : ∀ n ∈ d.weights P t, n ≤ reachBytes := by
  intro n hn
  have := DataW.weights_mem_each ht hd n hn
  simpa using (List.all_eq_true.1 h) n this
end Go.Proofs.YthjnallbbhnndaaDoor.Rd
namespace Go.Proofs.YthjnallbbhnndaaDoor.XWk
open Go.Proofs.YthjnallbbhnndaaDoor.Short Go.RowKit Go.Proofs.YthjnallbbhnndaaDoorW.PrintWords Go.Proofs.YthjnallbbhnndaaDoorW.PrintLast Go.Proofs.YthjnallbbhnndaaDoorW.PrintMore
attribute [local go_sem] q27 q25 q2l q2k q1w q1v q26 q24   -- for this text's walks alone
set_option linter.unusedVariables false
set_option linter.unusedSimpArgs false
def q0j.l0 : Nat → Int → Int → List (S43) → Bool → Option (Bool)
 | 0, _, _, _, _ => none
 | k + 1, x1, x2, x234000, x234001 => if x1 = x2 then (some (x1 == x2)) else (if x1 ≥ 0 then (if 0 ≤ x1 then (if x1 < (x234000.length : Int) then (q0j.l0 k ((q05 x234000 x1).f4) x2 x234000 x234001) else (none)) else (none)) else (some (x1 == x2)))
def q0j.f (k : Nat) (l0_0 : List (S43)) (a0_1 : Bool) (a1 : Int) (a2 : Int) : Option (Bool) := q0j.l0 k a1 a2 l0_0 a0_1
theorem q0j.mono_l : ∀ k, (∀ y0 y1 y2 y3, LeO (q0j.l0 k y0 y1 y2 y3) (q0j.l0 (k + 1) y0 y1 y2 y3))
 | 0 => fun _ _ _ _ r h => by simp [q0j.l0] at h
 | k + 1 => by
  have ih0 := q0j.mono_l k
  ·intro y0 y1 y2 y3
   unfold q0j.l0
   repeat' first
   | (with_reducible exact ih0 _ _ _ _)
   | (with_reducible exact LeO.refl _)
   | (with_reducible exact LeO.none _)
   | (with_reducible refine LeO.ite ?_ ?_)
   | (with_reducible refine LeO.bind ?_ (fun _ => ?_))
   | exact ih0 _ _ _ _
   | exact LeO.none _
   | refine LeO.ite ?_ ?_
   | refine LeO.bind ?_ (fun _ => ?_)
theorem q0j.mono : ∀ a0 a1 a2 a3 k, LeO (q0j.f k a0 a1 a2 a3) (q0j.f (k + 1) a0 a1 a2 a3) := by
 intro a0 a1 a2 a3 k
 have ih0 := q0j.mono_l k
 unfold q0j.f
 repeat' first
  | (with_reducible exact ih0 _ _ _ _)
  | (with_reducible exact LeO.refl _)
  | (with_reducible exact LeO.none _)
  | (with_reducible refine LeO.ite ?_ ?_)
  | (with_reducible refine LeO.bind ?_ (fun _ => ?_))
  | exact ih0 _ _ _ _
  | exact LeO.none _
  | refine LeO.ite ?_ ?_
  | refine LeO.bind ?_ (fun _ => ?_)
set_option maxHeartbeats 8000000 in
set_option maxRecDepth 100000 in
theorem q0j.calls (k : Nat) (A0_0 : Option Addr) (c0_0 : Nat) (l0_0 : List (S43)) (a0_1 : Bool) (a1 : Int) (a2 : Int) (r : Bool) (w : World) (hr0_0 : Kd.C k43 w A0_0 l0_0.length l0_0) (hc0_0 : l0_0.length ≤ c0_0) (h : q0j.f k l0_0 a0_1 a1 a2 = some r) :
 Calls Tryd.prog 26 #[.agg #[.slice A0_0 l0_0.length c0_0, .bool a0_1], .int .i64 a1, .int .i64 a2] w fun e w' => e = .returned (.bool r) ∧ Below w.heap.size w w' := by
 have hu24 := Tryd.underlying24
 have HR0_0 := aS hr0_0
 have HC0_0 := aS hc0_0
 clear hr0_0 hc0_0
 have HB := aS (Below.refl w.heap.size w)
 have H : (q0j.l0 k a1 a2 l0_0 a0_1) = some r := h
 clear h
 have H' := aS H
 clear H
 go_enter Tryd.func26, Tryd.ntmps26
 go_wp2_with (first | ((with_reducible refine q15 (N := 3) rfl ?_); refine q0y ?hg (N := 3) ?hd (cs := #[.slice A0_0 l0_0.length c0_0, .bool a0_1]) (t := 24) ?hr ?_; (case hd => rfl); (case hg => rfl); (case hr => first | (go_simp; done) | (go_simp; rfl)); intro gb233 hg w4 hbox hb; have n0_ := aS (q09 (by repeat (first | (with_reducible first | exact HB.out | apply bA | apply bN | apply bD) | exact HB.out)) hb); have n1_ := aS (hbox); have n2_ := aS ((by rw [hg]; exact (q0k (by repeat (first | (with_reducible first | exact HB.out | apply bA | apply bN | apply bD) | exact HB.out))) : w.heap.size ≤ gb233)); have n3_ := aS ((by rw [hg]; exact (q0k (by repeat (first | (with_reducible first | exact HB.out | apply bA | apply bN | apply bD) | exact HB.out))) : w.heap.size ≤ gb233)); clear HB; have HB := n0_; have BK233 := n1_; have GW233 := n2_; have GE233 := n3_; clear n0_ n1_ n2_ n3_; clear hb hbox hg))
 go_loopg [1] k (fun kq v1 w' => ∃ (x1_1 : Int), v1 = .int .i64 x1_1 ∧ Aside0 (q0j.l0 kq x1_1 a2 l0_0 a0_1 = some r) ∧ Aside0 (kq ≤ k) ∧ Aside0 (w'.heap[gb233]? = some (.cells #[(.slice A0_0 l0_0.length c0_0), .bool a0_1] 24 (0, 0))) ∧ Aside0 (Below w.heap.size w w'))
 case atStart => exact ⟨(a1), (by first | rfl | (simp; done) | simp [*]), H', ⟨Nat.le_refl _⟩, ⟨by (with_reducible repeat (first | refine kN ?_ _ | refine kD ?_ | refine kA ?_ _)); exact BK233.out⟩, ⟨by repeat (first | (with_reducible first | exact HB.out | apply bA | apply bN | apply bD | refine bS ?_ GE233.out) | exact HB.out)⟩⟩
 case round =>
  clear H'
  try clear c2
  try clear p2
  obtain ⟨x1_1, rfl, HA, HK1, BK233, HB⟩ := hrel
  cases gk with
  | zero => exact absurd HA.out (by simp [q0j.l0])
  | succ k1 =>
   have H := HA.out
   clear HA
   simp only [q0j.l0] at H
   by_cases c5 : x1_1 = a2
   ·rw [if_pos c5] at H
    have c5b0 : (x1_1 == a2) = true := beq_iff_eq.mpr c5
    have c5b1 : (x1_1 != a2) = false := bne_eq_false_iff_eq.mpr c5
    clear c5
    obtain rfl := Option.some.inj H
    go_wp2
    go_ret
    exact ⟨by first | rfl | (simp [q0b, q0a] <;> rfl) | (simp [*, q0b, q0a] <;> rfl), by repeat (first | (with_reducible first | exact HB.out | apply bA | apply bN | apply bD | refine bS ?_ GE233.out) | exact HB.out)⟩
   ·rw [if_neg c5] at H
    have c5b0 : (x1_1 == a2) = false := beq_eq_false_iff_ne.mpr c5
    have c5b1 : (x1_1 != a2) = true := bne_iff_ne.mpr c5
    by_cases c6 : x1_1 ≥ 0
    ·rw [if_pos c6] at H
     have c6b0 : decide (0 ≤ x1_1) = true := decide_eq_true c6
     clear c6
     by_cases c7 : 0 ≤ x1_1
     ·rw [if_pos c7] at H
      have c7b0 : decide (0 ≤ x1_1) = true := decide_eq_true c7
      clear c7
      by_cases c8 : x1_1 < (l0_0.length : Int)
      ·rw [if_pos c8] at H
       have c8b0 : decide (x1_1 < (l0_0.length : Int)) = true := decide_eq_true c8
       clear c8
       have H' := aS H
       clear H
       have hcz9_0 : wr.cell? ⟨gb233, 0, none⟩ = some (.slice A0_0 l0_0.length c0_0) := (q02 BK233.out 0).trans rfl
       have hcz9_1 : wr.cell? ⟨gb233, 1, none⟩ = some (.bool a0_1) := (q02 BK233.out 1).trans rfl
       have hfz9_0 := q01 BK233.out 0
       have hfz9_1 := q01 BK233.out 1
       have p234 : 0 ≤ (x1_1 : Int) := od (by first | (with_reducible assumption) | assumption)
       have q234 : x1_1 < (l0_0.length : Int) := od (by first | (with_reducible assumption) | assumption)
       obtain ⟨ad234, A234_2, c234_2, A234_5, c234_5, e234, hx234_0, hx234_1, hx234_2, hx234_3, hx234_4, hx234_5, hl234_2, hi234_2, hl234_5, hi234_5⟩ := q1j HR0_0.out x1_1 p234 q234
       cases e234
       replace hx234_0 := (HB.out.cell (World.block_lt_of_cell? w _ hx234_0)).trans hx234_0
       replace hx234_1 := (HB.out.cell (World.block_lt_of_cell? w _ hx234_1)).trans hx234_1
       replace hx234_2 := (HB.out.cell (World.block_lt_of_cell? w _ hx234_2)).trans hx234_2
       replace hx234_3 := (HB.out.cell (World.block_lt_of_cell? w _ hx234_3)).trans hx234_3
       replace hx234_4 := (HB.out.cell (World.block_lt_of_cell? w _ hx234_4)).trans hx234_4
       replace hx234_5 := (HB.out.cell (World.block_lt_of_cell? w _ hx234_5)).trans hx234_5
       have HR234_2 := aS hi234_2
       have HC234_2 := aS hl234_2
       clear hi234_2 hl234_2
       have HR234_5 := aS hi234_5
       have HC234_5 := aS hl234_5
       clear hi234_5 hl234_5
       replace p234 := eq_true p234
       replace q234 := eq_true q234
       go_wp2
       go_roundg k1
       case measure => have := HK1.out; omega
       case rel => exact ⟨((q05 l0_0 x1_1).f4), (by first | rfl | (simp; done) | simp [*]), H', ⟨by have := HK1.out; omega⟩, ⟨by (with_reducible repeat (first | refine kN ?_ _ | refine kD ?_ | refine kA ?_ _)); exact BK233.out⟩, ⟨by repeat (first | (with_reducible first | exact HB.out | apply bA | apply bN | apply bD | refine bS ?_ GE233.out) | exact HB.out)⟩⟩
      ·rw [if_neg c8] at H
       exact absurd H (by simp)
     ·rw [if_neg c7] at H
      exact absurd H (by simp)
    ·rw [if_neg c6] at H
     have c6b0 : decide (0 ≤ x1_1) = false := decide_eq_false c6
     clear c6
     obtain rfl := Option.some.inj H
     go_wp2
     go_ret
     exact ⟨by first | rfl | (simp [q0b, q0a] <;> rfl) | (simp [*, q0b, q0a] <;> rfl), by repeat (first | (with_reducible first | exact HB.out | apply bA | apply bN | apply bD | refine bS ?_ GE233.out) | exact HB.out)⟩
end Go.Proofs.YthjnallbbhnndaaDoor.XWk
namespace Go.Proofs.YthjnallbbhnndaaDoor.XWk
open Go.Proofs.YthjnallbbhnndaaDoor.Short Go.RowKit Go.Proofs.YthjnallbbhnndaaDoorW.PrintWords Go.Proofs.YthjnallbbhnndaaDoorW.PrintLast Go.Proofs.YthjnallbbhnndaaDoorW.PrintMore
attribute [local go_sem] q27 q25 q2l q2k q1w q1v q26 q24   -- for this text's walks alone
set_option linter.unusedVariables false
set_option linter.unusedSimpArgs false
mutual
def q06.l0 : Nat → List Int → Int → Int → List (S43) → Bool → Option (Int)
 | 0, _, _, _, _, _ => none
 | k + 1, x1, x5, x6, x236000, x236001 => if x6 < (x1.length : Int) then (q06.j1 k x1 x5 x6 (x5 == 0) x236000 x236001) else (q06.j1 k x1 x5 x6 false x236000 x236001)
def q06.j1 : Nat → List Int → Int → Int → Bool → List (S43) → Bool → Option (Int)
 | 0, _, _, _, _, _, _ => none
 | k + 1, x1, x5, x6, x17, x236000, x236001 => if x17 = true then (if 0 ≤ x6 then (if x6 < (x1.length : Int) then ((q0p.f (rd x1 x6) 0 (wrap64 ((x236000.length : Int) - 1))).bind fun t238 => (if t238 = true then (q06.l0 k x1 x5 (wrap64 (x6 + 1)) x236000 x236001) else (q06.l0 k x1 1 (wrap64 (x6 + 1)) x236000 x236001))) else (none)) else (none)) else (q06.l1 k x1 x5 0 x236000 x236001)
def q06.l1 : Nat → List Int → Int → Int → List (S43) → Bool → Option (Int)
 | 0, _, _, _, _, _ => none
 | k + 1, x1, x5, x7, x236000, x236001 => if x7 < (x1.length : Int) then (q06.j3 k x1 x5 x7 (x5 == 0) x236000 x236001) else (q06.j3 k x1 x5 x7 false x236000 x236001)
def q06.j3 : Nat → List Int → Int → Int → Bool → List (S43) → Bool → Option (Int)
 | 0, _, _, _, _, _, _ => none
 | k + 1, x1, x5, x7, x37, x236000, x236001 => if x37 = true then (if 0 ≤ x7 then (if x7 < (x1.length : Int) then ((q0j.f k x236000 x236001 (rd x1 x7) 0).bind fun t240 => (if t240 = true then (q06.l1 k x1 x5 (wrap64 (x7 + 1)) x236000 x236001) else (q06.l1 k x1 5 (wrap64 (x7 + 1)) x236000 x236001))) else (none)) else (none)) else (some x5)
end
def q06.f (k : Nat) (l0_0 : List (S43)) (a0_1 : Bool) (l1 : List Int) : Option (Int) := (q03.f k l0_0 a0_1).bind fun t236 => (q06.l0 k l1 t236 0 l0_0 a0_1)
theorem q06.mono_l : ∀ k, (∀ y0 y1 y2 y3 y4, LeO (q06.l0 k y0 y1 y2 y3 y4) (q06.l0 (k + 1) y0 y1 y2 y3 y4)) ∧ (∀ y0 y1 y2 y3 y4 y5, LeO (q06.j1 k y0 y1 y2 y3 y4 y5) (q06.j1 (k + 1) y0 y1 y2 y3 y4 y5)) ∧ (∀ y0 y1 y2 y3 y4, LeO (q06.l1 k y0 y1 y2 y3 y4) (q06.l1 (k + 1) y0 y1 y2 y3 y4)) ∧ (∀ y0 y1 y2 y3 y4 y5, LeO (q06.j3 k y0 y1 y2 y3 y4 y5) (q06.j3 (k + 1) y0 y1 y2 y3 y4 y5))
 | 0 => ⟨fun _ _ _ _ _ r h => by simp [q06.l0] at h, fun _ _ _ _ _ _ r h => by simp [q06.j1] at h, fun _ _ _ _ _ r h => by simp [q06.l1] at h, fun _ _ _ _ _ _ r h => by simp [q06.j3] at h⟩
 | k + 1 => by
  obtain ⟨ih0, ih1, ih2, ih3⟩ := q06.mono_l k
  refine ⟨?_, ?_, ?_, ?_⟩
  ·intro y0 y1 y2 y3 y4
   unfold q06.l0
   repeat' first
   | (with_reducible exact ih0 _ _ _ _ _)
   | (with_reducible exact ih1 _ _ _ _ _ _)
   | (with_reducible exact ih2 _ _ _ _ _)
   | (with_reducible exact ih3 _ _ _ _ _ _)
   | (with_reducible exact q03.mono _ _ _)
   | (with_reducible exact q0j.mono _ _ _ _ _)
   | (with_reducible exact LeO.refl _)
   | (with_reducible exact LeO.none _)
   | (with_reducible refine LeO.ite ?_ ?_)
   | (with_reducible refine LeO.bind ?_ (fun _ => ?_))
   | exact ih0 _ _ _ _ _
   | exact ih1 _ _ _ _ _ _
   | exact ih2 _ _ _ _ _
   | exact ih3 _ _ _ _ _ _
   | exact q03.mono _ _ _
   | exact q0j.mono _ _ _ _ _
   | exact LeO.none _
   | refine LeO.ite ?_ ?_
   | refine LeO.bind ?_ (fun _ => ?_)
  ·intro y0 y1 y2 y3 y4 y5
   unfold q06.j1
   repeat' first
   | (with_reducible exact ih0 _ _ _ _ _)
   | (with_reducible exact ih1 _ _ _ _ _ _)
   | (with_reducible exact ih2 _ _ _ _ _)
   | (with_reducible exact ih3 _ _ _ _ _ _)
   | (with_reducible exact q03.mono _ _ _)
   | (with_reducible exact q0j.mono _ _ _ _ _)
   | (with_reducible exact LeO.refl _)
   | (with_reducible exact LeO.none _)
   | (with_reducible refine LeO.ite ?_ ?_)
   | (with_reducible refine LeO.bind ?_ (fun _ => ?_))
   | exact ih0 _ _ _ _ _
   | exact ih1 _ _ _ _ _ _
   | exact ih2 _ _ _ _ _
   | exact ih3 _ _ _ _ _ _
   | exact q03.mono _ _ _
   | exact q0j.mono _ _ _ _ _
   | exact LeO.none _
   | refine LeO.ite ?_ ?_
   | refine LeO.bind ?_ (fun _ => ?_)
  ·intro y0 y1 y2 y3 y4
   unfold q06.l1
   repeat' first
   | (with_reducible exact ih0 _ _ _ _ _)
   | (with_reducible exact ih1 _ _ _ _ _ _)
   | (with_reducible exact ih2 _ _ _ _ _)
   | (with_reducible exact ih3 _ _ _ _ _ _)
   | (with_reducible exact q03.mono _ _ _)
   | (with_reducible exact q0j.mono _ _ _ _ _)
   | (with_reducible exact LeO.refl _)
   | (with_reducible exact LeO.none _)
   | (with_reducible refine LeO.ite ?_ ?_)
   | (with_reducible refine LeO.bind ?_ (fun _ => ?_))
   | exact ih0 _ _ _ _ _
   | exact ih1 _ _ _ _ _ _
   | exact ih2 _ _ _ _ _
   | exact ih3 _ _ _ _ _ _
   | exact q03.mono _ _ _
   | exact q0j.mono _ _ _ _ _
   | exact LeO.none _
   | refine LeO.ite ?_ ?_
   | refine LeO.bind ?_ (fun _ => ?_)
  ·intro y0 y1 y2 y3 y4 y5
   unfold q06.j3
   repeat' first
   | (with_reducible exact ih0 _ _ _ _ _)
   | (with_reducible exact ih1 _ _ _ _ _ _)
   | (with_reducible exact ih2 _ _ _ _ _)
   | (with_reducible exact ih3 _ _ _ _ _ _)
   | (with_reducible exact q03.mono _ _ _)
   | (with_reducible exact q0j.mono _ _ _ _ _)
   | (with_reducible exact LeO.refl _)
   | (with_reducible exact LeO.none _)
   | (with_reducible refine LeO.ite ?_ ?_)
   | (with_reducible refine LeO.bind ?_ (fun _ => ?_))
   | exact ih0 _ _ _ _ _
   | exact ih1 _ _ _ _ _ _
   | exact ih2 _ _ _ _ _
   | exact ih3 _ _ _ _ _ _
   | exact q03.mono _ _ _
   | exact q0j.mono _ _ _ _ _
   | exact LeO.none _
   | refine LeO.ite ?_ ?_
   | refine LeO.bind ?_ (fun _ => ?_)
theorem q06.mono : ∀ a0 a1 a2 k, LeO (q06.f k a0 a1 a2) (q06.f (k + 1) a0 a1 a2) := by
 intro a0 a1 a2 k
 obtain ⟨ih0, ih1, ih2, ih3⟩ := q06.mono_l k
 unfold q06.f
 repeat' first
  | (with_reducible exact ih0 _ _ _ _ _)
  | (with_reducible exact ih1 _ _ _ _ _ _)
  | (with_reducible exact ih2 _ _ _ _ _)
  | (with_reducible exact ih3 _ _ _ _ _ _)
  | (with_reducible exact q03.mono _ _ _)
  | (with_reducible exact q0j.mono _ _ _ _ _)
  | (with_reducible exact LeO.refl _)
  | (with_reducible exact LeO.none _)
  | (with_reducible refine LeO.ite ?_ ?_)
  | (with_reducible refine LeO.bind ?_ (fun _ => ?_))
  | exact ih0 _ _ _ _ _
  | exact ih1 _ _ _ _ _ _
  | exact ih2 _ _ _ _ _
  | exact ih3 _ _ _ _ _ _
  | exact q03.mono _ _ _
  | exact q0j.mono _ _ _ _ _
  | exact LeO.none _
  | refine LeO.ite ?_ ?_
  | refine LeO.bind ?_ (fun _ => ?_)
def q06.T5 : Bool × List (List Nat × List Nat) := (true, [([], []), ([], []), ([0, 1], [0, 1]), ([2], [2]), ([], []), ([4], [4]), ([5], [5]), ([6], [6]), ([3, 7], [3, 7]), ([8], [8])])
def q06.B5 : List Nat := [0, 0, 3, 7, 0, 16, 48, 112, 255, 511]
theorem q06.tab5 : rtab .any (opsOf Tryd.f18 5) = q06.T5 := by kernel_rfl
theorem q06.bits5 : waitsOk q06.T5.2 q06.B5 = true := by kernel_rfl
set_option maxHeartbeats 8000000 in
set_option maxRecDepth 100000 in
theorem q06.calls (k : Nat) (A0_0 : Option Addr) (c0_0 : Nat) (l0_0 : List (S43)) (a0_1 : Bool) (A1 : Option Addr) (c1 : Nat) (l1 : List Int) (r : Int) (w : World) (hr0_0 : Kd.C k43 w A0_0 l0_0.length l0_0) (hc0_0 : l0_0.length ≤ c0_0) (hr1 : Kd.C (Kd.int .i64) w A1 l1.length l1) (hc1 : l1.length ≤ c1) (h : q06.f k l0_0 a0_1 l1 = some r) :
 Calls Tryd.prog 18 #[.agg #[.slice A0_0 l0_0.length c0_0, .bool a0_1], .slice A1 l1.length c1] w fun e w' => e = .returned (.int .i64 r) ∧ Below w.heap.size w w' := by
 have hu24 := Tryd.underlying24
 have HR0_0 := aS hr0_0
 have HC0_0 := aS hc0_0
 clear hr0_0 hc0_0
 have HR1 := aS hr1
 have HC1 := aS hc1
 clear hr1 hc1
 have HB := aS (Below.refl w.heap.size w)
 have H : ((q03.f k l0_0 a0_1).bind fun t236 => (q06.l0 k l1 t236 0 l0_0 a0_1)) = some r := h
 clear h
 replace H := Option.bind_eq_some_iff.mp H
 obtain ⟨t236, A30, H⟩ := H
 replace H : (q06.l0 k l1 t236 0 l0_0 a0_1) = some r := H
 have A3 := aS A30
 clear A30
 have H' := aS H
 clear H
 go_enter Tryd.func18, Tryd.ntmps18
 go_wp2_with (first | ((with_reducible refine q15 (N := 2) rfl ?_); refine q0y ?hg (N := 2) ?hd (cs := #[.slice A0_0 l0_0.length c0_0, .bool a0_1]) (t := 24) ?hr ?_; (case hd => rfl); (case hg => rfl); (case hr => first | (go_simp; done) | (go_simp; rfl)); intro gb235 hg w4 hbox hb; have n0_ := aS (q09 (by repeat (first | (with_reducible first | exact HB.out | apply bA | apply bN | apply bD) | exact HB.out)) hb); have n1_ := aS (hbox); have n2_ := aS ((by rw [hg]; exact (q0k (by repeat (first | (with_reducible first | exact HB.out | apply bA | apply bN | apply bD) | exact HB.out))) : w.heap.size ≤ gb235)); have n3_ := aS ((by rw [hg]; exact (q0k (by repeat (first | (with_reducible first | exact HB.out | apply bA | apply bN | apply bD) | exact HB.out))) : w.heap.size ≤ gb235)); clear HB; have HB := n0_; have BK235 := n1_; have GW235 := n2_; have GE235 := n3_; clear n0_ n1_ n2_ n3_; clear hb hbox hg; have hcz5_0 : w4.cell? ⟨gb235, 0, none⟩ = some (.slice A0_0 l0_0.length c0_0) := (q02 BK235.out 0).trans rfl; have hcz5_1 : w4.cell? ⟨gb235, 1, none⟩ = some (.bool a0_1) := (q02 BK235.out 1).trans rfl; have hfz5_0 := q01 BK235.out 0; have hfz5_1 := q01 BK235.out 1) | ((with_reducible refine q0l (f := 17) rfl ?_); refine q1d (some 9) rfl rfl Tryd.func17 (by kernel_rfl) rfl #[.agg #[.slice A0_0 l0_0.length c0_0, .bool a0_1]] rfl (by (try simp only [List.map_toArray, List.map_cons, List.map_nil]); first | done | rfl | (simp only [List.length_drop, List.length_take]; rfl)) ?_; (with_reducible refine (q03.calls k _ _ l0_0 a0_1 t236 _ ?side1 ?side2 A3.out).mono ?_); (case side1 => repeat (first | exact (Kd.C_below HR0_0.out HB.out) | (with_reducible refine cA ?_ _) | (with_reducible refine cN ?_ _) | (with_reducible refine cD ?_))); (case side2 => exact HC0_0.out); rintro e w6 ⟨rfl, hb⟩; refine ⟨_, rfl, ?_⟩; have n0_ := aS (q16 (g := gb235) (o := .cells #[.slice A0_0 l0_0.length c0_0, .bool a0_1] 24 (0, 0)) (by (with_reducible repeat (first | refine kN ?_ _ | refine kD ?_ | refine kA ?_ _)); exact BK235.out) hb); have n1_ := aS (q09 (by repeat (first | (with_reducible first | exact HB.out | apply bA | apply bN | apply bD | refine bS ?_ GE235.out) | exact HB.out)) hb); clear BK235; clear HB; have BK235 := n0_; have HB := n1_; clear n0_ n1_; (try clear hb); (try clear hb2); (try clear hk); (try clear hi)))
 go_loopg [5, 6] k (fun kq v5 v6 w' => ∃ (x5_1 : Int) (x6_1 : Int), v5 = .int .i64 x5_1 ∧ v6 = .int .i64 x6_1 ∧ Aside0 (q06.l0 kq l1 x5_1 x6_1 l0_0 a0_1 = some r) ∧ Aside0 (kq ≤ k) ∧ Aside0 (w'.heap[gb235]? = some (.cells #[(.slice A0_0 l0_0.length c0_0), .bool a0_1] 24 (0, 0))) ∧ Aside0 (Below w.heap.size w w'))
 case atStart => exact ⟨(t236), (0), (by first | rfl | (simp; done) | simp [*]), (by first | rfl | (simp; done) | simp [*]), H', ⟨Nat.le_refl _⟩, ⟨by (with_reducible repeat (first | refine kN ?_ _ | refine kD ?_ | refine kA ?_ _)); exact BK235.out⟩, ⟨by repeat (first | (with_reducible first | exact HB.out | apply bA | apply bN | apply bD | refine bS ?_ GE235.out) | exact HB.out)⟩⟩
 case round =>
  clear H'
  try clear c1
  try clear p2
  try clear hcz5_0
  try clear hcz5_1
  try clear hfz5_0
  try clear hfz5_1
  obtain ⟨x5_1, x6_1, rfl, rfl, HA, HK1, BK235, HB⟩ := hrel
  cases gk with
  | zero => exact absurd HA.out (by simp [q06.l0])
  | succ k1 =>
   have H := HA.out
   clear HA
   simp only [q06.l0] at H
   have HC7 := aS H
   clear H
   go_upto_region 3 with (fail)
   go_cut [17] (fun v17 wc => ∃ (kq : Nat) (x17_6 : Bool), v17 = .bool x17_6 ∧ Aside0 (q06.j1 kq l1 x5_1 x6_1 x17_6 l0_0 a0_1 = some r) ∧ Aside0 (kq ≤ k1) ∧ Aside0 (wc.heap[gb235]? = some (.cells #[(.slice A0_0 l0_0.length c0_0), .bool a0_1] 24 (0, 0))) ∧ Aside0 (Below w.heap.size w wc))
   case first =>
    have H := HC7.out
    clear HC7
    by_cases c8 : x6_1 < (l1.length : Int)
    ·rw [if_pos c8] at H
     have c8b0 : decide (x6_1 < (l1.length : Int)) = true := decide_eq_true c8
     clear c8
     (first | rw [c8b0] | (simp only [q1e, q1i]; rw [c8b0]) | skip)
     have H' := aS H
     clear H
     go_wp2
     go_meet
     case rel => exact ⟨_, ((x5_1 == 0)), (by first | rfl | (simp; done) | simp [*]), H', ⟨by have := HK1.out; first | omega | exact Nat.le_refl _⟩, ⟨by (with_reducible repeat (first | refine kN ?_ _ | refine kD ?_ | refine kA ?_ _)); exact BK235.out⟩, ⟨by repeat (first | (with_reducible first | exact HB.out | apply bA | apply bN | apply bD | refine bS ?_ GE235.out) | exact HB.out)⟩⟩
    ·rw [if_neg c8] at H
     have c8b0 : decide (x6_1 < (l1.length : Int)) = false := decide_eq_false c8
     clear c8
     (first | rw [c8b0] | (simp only [q1e, q1i]; rw [c8b0]) | skip)
     have H' := aS H
     clear H
     go_wp2
     go_meet
     case rel => exact ⟨_, (false), (by first | rfl | (simp; done) | simp [*]), H', ⟨by have := HK1.out; first | omega | exact Nat.le_refl _⟩, ⟨by (with_reducible repeat (first | refine kN ?_ _ | refine kD ?_ | refine kA ?_ _)); exact BK235.out⟩, ⟨by repeat (first | (with_reducible first | exact HB.out | apply bA | apply bN | apply bD | refine bS ?_ GE235.out) | exact HB.out)⟩⟩
   case rest =>
    clear HC7
    try clear c1
    try clear p2
    try clear c8
    try clear c8b0
    try clear hcz5_0
    try clear hcz5_1
    try clear hfz5_0
    try clear hfz5_1
    try clear p2
    obtain ⟨kq, x17_6, rfl, HA, HJ6, BK235, HB⟩ := hcut
    cases kq with
    | zero => exact absurd HA.out (by simp [q06.j1])
    | succ kj6 =>
     have H := HA.out
     clear HA
     simp only [q06.j1] at H
     by_cases c9 : x17_6 = true
     ·subst c9
      have H1 : (if 0 ≤ x6_1 then (if x6_1 < (l1.length : Int) then ((q0p.f (rd l1 x6_1) 0 (wrap64 ((l0_0.length : Int) - 1))).bind fun t238 => (if t238 = true then (q06.l0 kj6 l1 x5_1 (wrap64 (x6_1 + 1)) l0_0 a0_1) else (q06.l0 kj6 l1 1 (wrap64 (x6_1 + 1)) l0_0 a0_1))) else (none)) else (none)) = some r := by rw [if_pos rfl] at H; exact H
      clear H
      have H := H1
      clear H1
      by_cases c10 : 0 ≤ x6_1
      ·rw [if_pos c10] at H
       have c10b0 : decide (0 ≤ x6_1) = true := decide_eq_true c10
       clear c10
       by_cases c11 : x6_1 < (l1.length : Int)
       ·rw [if_pos c11] at H
        have c11b0 : decide (x6_1 < (l1.length : Int)) = true := decide_eq_true c11
        clear c11
        replace H := Option.bind_eq_some_iff.mp H
        obtain ⟨t238, A120, H⟩ := H
        replace H : (if t238 = true then (q06.l0 kj6 l1 x5_1 (wrap64 (x6_1 + 1)) l0_0 a0_1) else (q06.l0 kj6 l1 1 (wrap64 (x6_1 + 1)) l0_0 a0_1)) = some r := H
        have A12 := aS A120
        clear A120
        by_cases c13 : t238 = true
        ·subst c13
         have H1 : (q06.l0 kj6 l1 x5_1 (wrap64 (x6_1 + 1)) l0_0 a0_1) = some r := by rw [if_pos rfl] at H; exact H
         clear H
         have H := H1
         clear H1
         have H' := aS H
         clear H
         try go_wp2
         have n0_ := aS (blk_drew BK235.out)
         have n1_ := aS (q2f HB.out)
         clear BK235
         clear HB
         have BK235 := n0_
         have HB := n1_
         clear n0_ n1_
         have p237 : 0 ≤ (x6_1 : Int) := od (by first | (with_reducible assumption) | assumption)
         have q237 : x6_1 < (l1.length : Int) := od (by first | (with_reducible assumption) | assumption)
         obtain ⟨ad237, e237, hx237_0⟩ := Kd.at_int HR1.out x6_1 p237 q237
         have hw237_0 := hx237_0
         cases e237
         replace hx237_0 := (HB.out.cell (World.block_lt_of_cell? w _ hx237_0)).trans hx237_0
         replace p237 := eq_true p237
         replace q237 := eq_true q237
         refine start_ (n := 10) (S := fun w' => w'.cell? ⟨gb235, 0, none⟩ = some (.slice A0_0 l0_0.length c0_0) ∧ w'.cell? ⟨gb235, 1, none⟩ = some (.bool a0_1) ∧ w'.cell? (ad237.add (x6_1).toNat) = some (.int .i64 (rd l1 x6_1))) (ds := []) #[false, false, false, false, false, false, false, false, false, false] (by kernel_rfl) rfl rfl ⟨(q02 BK235.out 0).trans rfl, (q02 BK235.out 1).trans rfl, ((HB.out.cell (World.block_lt_of_cell? w _ hw237_0)).trans hw237_0)⟩ (fun hHeld => ?_); refine with_tabW q06.tab5 q06.bits5 (fun HT_ HW_ => ?_)
         generalize wc.drew = w14 at BK235 HB hx237_0 hHeld ⊢
         refine q1u (i := 0) (N := some 20) (v := ?_) (a' := ?_) #[true, false, false, false, false, false, false, false, false, false] rfl rfl (q1n HT_.out (by kernel_rfl)) (fun _ _ _ h => h) (Or.inl ⟨by rfl, ?_⟩) ?_ ?_
         rotate_left
         ·intro w'
          go_simp
          with_reducible rfl
         rotate_left
         ·simp only [Act.put, s1, s2, s3, q1e, q1i]
          rfl
         refine q1u (i := 1) (N := some 21) (v := ?_) (a' := ?_) #[true, true, false, false, false, false, false, false, false, false] rfl rfl (q1n HT_.out (by kernel_rfl)) (fun _ _ _ h => h) (Or.inl ⟨by rfl, ?_⟩) ?_ ?_
         rotate_left
         ·intro w'
          go_simp
          with_reducible rfl
         rotate_left
         ·simp only [Act.put, s1, s2, s3, q1e, q1i]
          rfl
         refine q1u (i := 2) (N := some 22) (v := ?_) (a' := ?_) #[true, true, true, false, false, false, false, false, false, false] rfl rfl (q1n HT_.out (by kernel_rfl)) (fun _ _ _ h => h) (Or.inl ⟨by rfl, ?_⟩) ?_ ?_
         rotate_left
         ·intro w'
          go_simp
          with_reducible rfl
         rotate_left
         ·simp only [Act.put, s1, s2, s3, q1e, q1i]
          rfl
         refine q1u (i := 4) (N := some 24) (v := ?_) (a' := ?_) #[true, true, true, false, true, false, false, false, false, false] rfl rfl (q1n HT_.out (by kernel_rfl)) (fun _ _ _ h => h) (Or.inl ⟨by rfl, ?_⟩) ?_ ?_
         rotate_left
         ·intro w'
          go_simp
          with_reducible rfl
         rotate_left
         ·simp only [Act.put, s1, s2, s3, q1e, q1i]
          rfl
         refine take_ (i := 3) (N := some 23) (v := ?_) (a' := ?_) #[true, true, true, true, true, false, false, false, false, false] rfl rfl (q2q HT_.out HW_.out (by kernel_rfl)) (fun _ _ _ h => h) (Or.inl ⟨by rfl, ?_⟩) hHeld ?_ ?_
         rotate_left
         ·rintro w' ⟨s0, s1, s2⟩
          go_simp
          with_reducible rfl
         rotate_left
         ·simp only [Act.put, s1, s2, s3, q1e, q1i]
          rfl
         refine take_ (i := 5) (N := some 25) (v := ?_) (a' := ?_) #[true, true, true, true, true, true, false, false, false, false] rfl rfl (q2q HT_.out HW_.out (by kernel_rfl)) (fun _ _ _ h => h) (Or.inl ⟨by rfl, ?_⟩) hHeld ?_ ?_
         rotate_left
         ·rintro w' ⟨s0, s1, s2⟩
          go_simp
          with_reducible rfl
         rotate_left
         ·simp only [Act.put, s1, s2, s3, q1e, q1i]
          rfl
         refine q1u (i := 6) (N := some 26) (v := ?_) (a' := ?_) #[true, true, true, true, true, true, true, false, false, false] rfl rfl (q1n HT_.out (by kernel_rfl)) (fun _ _ _ h => h) (Or.inl ⟨by rfl, ?_⟩) ?_ ?_
         rotate_left
         ·intro w'
          go_simp
          with_reducible rfl
         rotate_left
         ·simp only [Act.put, s1, s2, s3, q1e, q1i]
          rfl
         refine q1u (i := 7) (N := some 27) (v := ?_) (a' := ?_) #[true, true, true, true, true, true, true, true, false, false] rfl rfl (q1n HT_.out (by kernel_rfl)) (fun _ _ _ h => h) (Or.inl ⟨by rfl, ?_⟩) ?_ ?_
         rotate_left
         ·intro w'
          go_simp
          with_reducible rfl
         rotate_left
         ·simp only [Act.put, s1, s2, s3, q1e, q1i]
          rfl
         refine one_ (i := 8) (N := some 28) #[true, true, true, true, true, true, true, true, true, false] rfl rfl (one_of HT_.out (by kernel_rfl)) (by decide) (fun K hK => ?_)
         refine goes_ Tryd.func73 (by kernel_rfl) rfl #[.int .i64 (rd l1 x6_1), .int .i64 0, .int .i64 (wrap64 ((l0_0.length : Int) - 1))] (by rfl) rfl rfl (by (try simp only [List.map_toArray, List.map_cons, List.map_nil]); first | done | rfl | (simp only [List.length_drop, List.length_take]; rfl)) ?_
         with_reducible refine (q0p.calls (rd l1 x6_1) 0 (wrap64 ((l0_0.length : Int) - 1)) true _ A12.out).mono ?_
         rintro e w' ⟨rfl, ⟨nd, rfl⟩⟩
         refine ⟨_, rfl, ?_⟩
         refine hK.out _ _ ⟨(q02 BK235.out 0).trans rfl, (q02 BK235.out 1).trans rfl, ((HB.out.cell (World.block_lt_of_cell? w _ hw237_0)).trans hw237_0)⟩ (fun hHeld => ?_)
         clear hK K
         refine norm_ (a' := ?_) ?_ ?_
         rotate_left
         ·show Act.put _ (some 28) _ = _
          simp only [Act.put, s1, s2, s3, q1e, q1i]
          rfl
         refine q1u (i := 9) (N := some 29) (v := ?_) (a' := ?_) #[true, true, true, true, true, true, true, true, true, true] rfl rfl (q1n HT_.out (by kernel_rfl)) (fun _ _ _ h => h) (Or.inl ⟨by rfl, ?_⟩) ?_ ?_
         rotate_left
         ·intro w'
          go_simp
          with_reducible rfl
         rotate_left
         ·simp only [Act.put, s1, s2, s3, q1e, q1i]
          rfl
         refine done_ (done_of HT_.out (by kernel_rfl)) ?_
         try go_wp2
         go_roundg kj6
         case measure => have := HK1.out; have := HJ6.out; omega
         case rel => exact ⟨(x5_1), (wrap64 (x6_1 + 1)), (by first | rfl | (simp; done) | simp [*]), (by first | rfl | (simp; done) | simp [*]), H', ⟨by have := HK1.out; have := HJ6.out; omega⟩, ⟨by (with_reducible repeat (first | refine kN ?_ _ | refine kD ?_ | refine kA ?_ _)); exact BK235.out⟩, ⟨by repeat (first | (with_reducible first | exact HB.out | apply bA | apply bN | apply bD | refine bS ?_ GE235.out) | exact HB.out)⟩⟩
        ·replace c13 := Bool.eq_false_iff.mpr c13
         subst c13
         have H1 : (q06.l0 kj6 l1 1 (wrap64 (x6_1 + 1)) l0_0 a0_1) = some r := by rw [if_neg (show ¬ (false = true) by decide)] at H; exact H
         clear H
         have H := H1
         clear H1
         have H' := aS H
         clear H
         try go_wp2
         have n0_ := aS (blk_drew BK235.out)
         have n1_ := aS (q2f HB.out)
         clear BK235
         clear HB
         have BK235 := n0_
         have HB := n1_
         clear n0_ n1_
         have p237 : 0 ≤ (x6_1 : Int) := od (by first | (with_reducible assumption) | assumption)
         have q237 : x6_1 < (l1.length : Int) := od (by first | (with_reducible assumption) | assumption)
         obtain ⟨ad237, e237, hx237_0⟩ := Kd.at_int HR1.out x6_1 p237 q237
         have hw237_0 := hx237_0
         cases e237
         replace hx237_0 := (HB.out.cell (World.block_lt_of_cell? w _ hx237_0)).trans hx237_0
         replace p237 := eq_true p237
         replace q237 := eq_true q237
         refine start_ (n := 10) (S := fun w' => w'.cell? ⟨gb235, 0, none⟩ = some (.slice A0_0 l0_0.length c0_0) ∧ w'.cell? ⟨gb235, 1, none⟩ = some (.bool a0_1) ∧ w'.cell? (ad237.add (x6_1).toNat) = some (.int .i64 (rd l1 x6_1))) (ds := []) #[false, false, false, false, false, false, false, false, false, false] (by kernel_rfl) rfl rfl ⟨(q02 BK235.out 0).trans rfl, (q02 BK235.out 1).trans rfl, ((HB.out.cell (World.block_lt_of_cell? w _ hw237_0)).trans hw237_0)⟩ (fun hHeld => ?_); refine with_tabW q06.tab5 q06.bits5 (fun HT_ HW_ => ?_)
         generalize wc.drew = w15 at BK235 HB hx237_0 hHeld ⊢
         refine q1u (i := 0) (N := some 20) (v := ?_) (a' := ?_) #[true, false, false, false, false, false, false, false, false, false] rfl rfl (q1n HT_.out (by kernel_rfl)) (fun _ _ _ h => h) (Or.inl ⟨by rfl, ?_⟩) ?_ ?_
         rotate_left
         ·intro w'
          go_simp
          with_reducible rfl
         rotate_left
         ·simp only [Act.put, s1, s2, s3, q1e, q1i]
          rfl
         refine q1u (i := 1) (N := some 21) (v := ?_) (a' := ?_) #[true, true, false, false, false, false, false, false, false, false] rfl rfl (q1n HT_.out (by kernel_rfl)) (fun _ _ _ h => h) (Or.inl ⟨by rfl, ?_⟩) ?_ ?_
         rotate_left
         ·intro w'
          go_simp
          with_reducible rfl
         rotate_left
         ·simp only [Act.put, s1, s2, s3, q1e, q1i]
          rfl
         refine q1u (i := 2) (N := some 22) (v := ?_) (a' := ?_) #[true, true, true, false, false, false, false, false, false, false] rfl rfl (q1n HT_.out (by kernel_rfl)) (fun _ _ _ h => h) (Or.inl ⟨by rfl, ?_⟩) ?_ ?_
         rotate_left
         ·intro w'
          go_simp
          with_reducible rfl
         rotate_left
         ·simp only [Act.put, s1, s2, s3, q1e, q1i]
          rfl
         refine q1u (i := 4) (N := some 24) (v := ?_) (a' := ?_) #[true, true, true, false, true, false, false, false, false, false] rfl rfl (q1n HT_.out (by kernel_rfl)) (fun _ _ _ h => h) (Or.inl ⟨by rfl, ?_⟩) ?_ ?_
         rotate_left
         ·intro w'
          go_simp
          with_reducible rfl
         rotate_left
         ·simp only [Act.put, s1, s2, s3, q1e, q1i]
          rfl
         refine take_ (i := 3) (N := some 23) (v := ?_) (a' := ?_) #[true, true, true, true, true, false, false, false, false, false] rfl rfl (q2q HT_.out HW_.out (by kernel_rfl)) (fun _ _ _ h => h) (Or.inl ⟨by rfl, ?_⟩) hHeld ?_ ?_
         rotate_left
         ·rintro w' ⟨s0, s1, s2⟩
          go_simp
          with_reducible rfl
         rotate_left
         ·simp only [Act.put, s1, s2, s3, q1e, q1i]
          rfl
         refine take_ (i := 5) (N := some 25) (v := ?_) (a' := ?_) #[true, true, true, true, true, true, false, false, false, false] rfl rfl (q2q HT_.out HW_.out (by kernel_rfl)) (fun _ _ _ h => h) (Or.inl ⟨by rfl, ?_⟩) hHeld ?_ ?_
         rotate_left
         ·rintro w' ⟨s0, s1, s2⟩
          go_simp
          with_reducible rfl
         rotate_left
         ·simp only [Act.put, s1, s2, s3, q1e, q1i]
          rfl
         refine q1u (i := 6) (N := some 26) (v := ?_) (a' := ?_) #[true, true, true, true, true, true, true, false, false, false] rfl rfl (q1n HT_.out (by kernel_rfl)) (fun _ _ _ h => h) (Or.inl ⟨by rfl, ?_⟩) ?_ ?_
         rotate_left
         ·intro w'
          go_simp
          with_reducible rfl
         rotate_left
         ·simp only [Act.put, s1, s2, s3, q1e, q1i]
          rfl
         refine q1u (i := 7) (N := some 27) (v := ?_) (a' := ?_) #[true, true, true, true, true, true, true, true, false, false] rfl rfl (q1n HT_.out (by kernel_rfl)) (fun _ _ _ h => h) (Or.inl ⟨by rfl, ?_⟩) ?_ ?_
         rotate_left
         ·intro w'
          go_simp
          with_reducible rfl
         rotate_left
         ·simp only [Act.put, s1, s2, s3, q1e, q1i]
          rfl
         refine one_ (i := 8) (N := some 28) #[true, true, true, true, true, true, true, true, true, false] rfl rfl (one_of HT_.out (by kernel_rfl)) (by decide) (fun K hK => ?_)
         refine goes_ Tryd.func73 (by kernel_rfl) rfl #[.int .i64 (rd l1 x6_1), .int .i64 0, .int .i64 (wrap64 ((l0_0.length : Int) - 1))] (by rfl) rfl rfl (by (try simp only [List.map_toArray, List.map_cons, List.map_nil]); first | done | rfl | (simp only [List.length_drop, List.length_take]; rfl)) ?_
         with_reducible refine (q0p.calls (rd l1 x6_1) 0 (wrap64 ((l0_0.length : Int) - 1)) false _ A12.out).mono ?_
         rintro e w' ⟨rfl, ⟨nd, rfl⟩⟩
         refine ⟨_, rfl, ?_⟩
         refine hK.out _ _ ⟨(q02 BK235.out 0).trans rfl, (q02 BK235.out 1).trans rfl, ((HB.out.cell (World.block_lt_of_cell? w _ hw237_0)).trans hw237_0)⟩ (fun hHeld => ?_)
         clear hK K
         refine norm_ (a' := ?_) ?_ ?_
         rotate_left
         ·show Act.put _ (some 28) _ = _
          simp only [Act.put, s1, s2, s3, q1e, q1i]
          rfl
         refine q1u (i := 9) (N := some 29) (v := ?_) (a' := ?_) #[true, true, true, true, true, true, true, true, true, true] rfl rfl (q1n HT_.out (by kernel_rfl)) (fun _ _ _ h => h) (Or.inl ⟨by rfl, ?_⟩) ?_ ?_
         rotate_left
         ·intro w'
          go_simp
          with_reducible rfl
         rotate_left
         ·simp only [Act.put, s1, s2, s3, q1e, q1i]
          rfl
         refine done_ (done_of HT_.out (by kernel_rfl)) ?_
         try go_wp2
         go_roundg kj6
         case measure => have := HK1.out; have := HJ6.out; omega
         case rel => exact ⟨(1), (wrap64 (x6_1 + 1)), (by first | rfl | (simp; done) | simp [*]), (by first | rfl | (simp; done) | simp [*]), H', ⟨by have := HK1.out; have := HJ6.out; omega⟩, ⟨by (with_reducible repeat (first | refine kN ?_ _ | refine kD ?_ | refine kA ?_ _)); exact BK235.out⟩, ⟨by repeat (first | (with_reducible first | exact HB.out | apply bA | apply bN | apply bD | refine bS ?_ GE235.out) | exact HB.out)⟩⟩
       ·rw [if_neg c11] at H
        exact absurd H (by simp)
      ·rw [if_neg c10] at H
       exact absurd H (by simp)
     ·replace c9 := Bool.eq_false_iff.mpr c9
      subst c9
      have H1 : (q06.l1 kj6 l1 x5_1 0 l0_0 a0_1) = some r := by rw [if_neg (show ¬ (false = true) by decide)] at H; exact H
      clear H
      have H := H1
      clear H1
      have H' := aS H
      clear H
      go_wp2
      go_loopg [5, 7] kj6 (fun kq v5 v7 w' => ∃ (x5_3 : Int) (x7_3 : Int), v5 = .int .i64 x5_3 ∧ v7 = .int .i64 x7_3 ∧ Aside0 (q06.l1 kq l1 x5_3 x7_3 l0_0 a0_1 = some r) ∧ Aside0 (kq ≤ kj6) ∧ Aside0 (w'.heap[gb235]? = some (.cells #[(.slice A0_0 l0_0.length c0_0), .bool a0_1] 24 (0, 0))) ∧ Aside0 (Below w.heap.size w w'))
      case atStart => exact ⟨(x5_1), (0), (by first | rfl | (simp; done) | simp [*]), (by first | rfl | (simp; done) | simp [*]), H', ⟨Nat.le_refl _⟩, ⟨by (with_reducible repeat (first | refine kN ?_ _ | refine kD ?_ | refine kA ?_ _)); exact BK235.out⟩, ⟨by repeat (first | (with_reducible first | exact HB.out | apply bA | apply bN | apply bD | refine bS ?_ GE235.out) | exact HB.out)⟩⟩
      case round =>
       clear H'
       try clear c1
       try clear p2
       try clear q2
       try clear hx2
       try clear p6
       try clear c7
       try clear c8
       try clear c8b0
       try clear c9
       try clear c10
       try clear c10b0
       try clear c11
       try clear c11b0
       try clear c13
       try clear hcz5_0
       try clear hcz5_1
       try clear hfz5_0
       try clear hfz5_1
       try clear hx237_0
       try clear p2
       try clear p237
       try clear q237
       obtain ⟨x5_3, x7_3, rfl, rfl, HA, HK3, BK235, HB⟩ := hrel
       cases gk with
       | zero => exact absurd HA.out (by simp [q06.l1])
       | succ k3 =>
        have H := HA.out
        clear HA
        simp only [q06.l1] at H
        have HC16 := aS H
        clear H
        go_upto_region 8 with (fail)
        go_cut [37] (fun v37 wc => ∃ (kq : Nat) (x37_15 : Bool), v37 = .bool x37_15 ∧ Aside0 (q06.j3 kq l1 x5_3 x7_3 x37_15 l0_0 a0_1 = some r) ∧ Aside0 (kq ≤ k3) ∧ Aside0 (wc.heap[gb235]? = some (.cells #[(.slice A0_0 l0_0.length c0_0), .bool a0_1] 24 (0, 0))) ∧ Aside0 (Below w.heap.size w wc))
        case first =>
         have H := HC16.out
         clear HC16
         by_cases c17 : x7_3 < (l1.length : Int)
         ·rw [if_pos c17] at H
          have c17b0 : decide (x7_3 < (l1.length : Int)) = true := decide_eq_true c17
          clear c17
          (first | rw [c17b0] | (simp only [q1e, q1i]; rw [c17b0]) | skip)
          have H' := aS H
          clear H
          go_wp2
          go_meet
          case rel => exact ⟨_, ((x5_3 == 0)), (by first | rfl | (simp; done) | simp [*]), H', ⟨by have := HK1.out; have := HJ6.out; have := HK3.out; first | omega | exact Nat.le_refl _⟩, ⟨by (with_reducible repeat (first | refine kN ?_ _ | refine kD ?_ | refine kA ?_ _)); exact BK235.out⟩, ⟨by repeat (first | (with_reducible first | exact HB.out | apply bA | apply bN | apply bD | refine bS ?_ GE235.out) | exact HB.out)⟩⟩
         ·rw [if_neg c17] at H
          have c17b0 : decide (x7_3 < (l1.length : Int)) = false := decide_eq_false c17
          clear c17
          (first | rw [c17b0] | (simp only [q1e, q1i]; rw [c17b0]) | skip)
          have H' := aS H
          clear H
          go_wp2
          go_meet
          case rel => exact ⟨_, (false), (by first | rfl | (simp; done) | simp [*]), H', ⟨by have := HK1.out; have := HJ6.out; have := HK3.out; first | omega | exact Nat.le_refl _⟩, ⟨by (with_reducible repeat (first | refine kN ?_ _ | refine kD ?_ | refine kA ?_ _)); exact BK235.out⟩, ⟨by repeat (first | (with_reducible first | exact HB.out | apply bA | apply bN | apply bD | refine bS ?_ GE235.out) | exact HB.out)⟩⟩
        case rest =>
         clear HC16
         try clear c1
         try clear p2
         try clear q2
         try clear hx2
         try clear p6
         try clear c7
         try clear c8
         try clear c8b0
         try clear c9
         try clear c10
         try clear c10b0
         try clear c11
         try clear c11b0
         try clear c13
         try clear c17
         try clear c17b0
         try clear hcz5_0
         try clear hcz5_1
         try clear hfz5_0
         try clear hfz5_1
         try clear hx237_0
         try clear p2
         try clear p237
         try clear p6
         try clear q2
         try clear q237
         obtain ⟨kq, x37_15, rfl, HA, HJ15, BK235, HB⟩ := hcut
         cases kq with
         | zero => exact absurd HA.out (by simp [q06.j3])
         | succ kj15 =>
          have H := HA.out
          clear HA
          simp only [q06.j3] at H
          by_cases c18 : x37_15 = true
          ·subst c18
           have H1 : (if 0 ≤ x7_3 then (if x7_3 < (l1.length : Int) then ((q0j.f kj15 l0_0 a0_1 (rd l1 x7_3) 0).bind fun t240 => (if t240 = true then (q06.l1 kj15 l1 x5_3 (wrap64 (x7_3 + 1)) l0_0 a0_1) else (q06.l1 kj15 l1 5 (wrap64 (x7_3 + 1)) l0_0 a0_1))) else (none)) else (none)) = some r := by rw [if_pos rfl] at H; exact H
           clear H
           have H := H1
           clear H1
           by_cases c19 : 0 ≤ x7_3
           ·rw [if_pos c19] at H
            have c19b0 : decide (0 ≤ x7_3) = true := decide_eq_true c19
            clear c19
            by_cases c20 : x7_3 < (l1.length : Int)
            ·rw [if_pos c20] at H
             have c20b0 : decide (x7_3 < (l1.length : Int)) = true := decide_eq_true c20
             clear c20
             replace H := Option.bind_eq_some_iff.mp H
             obtain ⟨t240, A210, H⟩ := H
             replace H : (if t240 = true then (q06.l1 kj15 l1 x5_3 (wrap64 (x7_3 + 1)) l0_0 a0_1) else (q06.l1 kj15 l1 5 (wrap64 (x7_3 + 1)) l0_0 a0_1)) = some r := H
             have A21 := aS A210
             clear A210
             by_cases c22 : t240 = true
             ·subst c22
              have H1 : (q06.l1 kj15 l1 x5_3 (wrap64 (x7_3 + 1)) l0_0 a0_1) = some r := by rw [if_pos rfl] at H; exact H
              clear H
              have H := H1
              clear H1
              have H' := aS H
              clear H
              try go_wp2
              have n0_ := aS (blk_drew BK235.out)
              have n1_ := aS (q2f HB.out)
              clear BK235
              clear HB
              have BK235 := n0_
              have HB := n1_
              clear n0_ n1_
              have p239 : 0 ≤ (x7_3 : Int) := od (by first | (with_reducible assumption) | assumption)
              have q239 : x7_3 < (l1.length : Int) := od (by first | (with_reducible assumption) | assumption)
              obtain ⟨ad239, e239, hx239_0⟩ := Kd.at_int HR1.out x7_3 p239 q239
              have hw239_0 := hx239_0
              cases e239
              replace hx239_0 := (HB.out.cell (World.block_lt_of_cell? w _ hx239_0)).trans hx239_0
              replace p239 := eq_true p239
              replace q239 := eq_true q239
              refine start_ (n := 7) (S := fun w' => w'.cell? ⟨gb235, 0, none⟩ = some (.slice A0_0 l0_0.length c0_0) ∧ w'.cell? ⟨gb235, 1, none⟩ = some (.bool a0_1) ∧ w'.cell? (ad239.add (x7_3).toNat) = some (.int .i64 (rd l1 x7_3))) (ds := []) #[false, false, false, false, false, false, false] (by kernel_rfl) rfl rfl ⟨(q02 BK235.out 0).trans rfl, (q02 BK235.out 1).trans rfl, ((HB.out.cell (World.block_lt_of_cell? w _ hw239_0)).trans hw239_0)⟩ (fun hHeld => ?_)
              generalize wc.drew = w23 at BK235 HB hx239_0 hHeld ⊢
              refine q1u (i := 1) (N := some 41) (v := ?_) (a' := ?_) #[false, true, false, false, false, false, false] rfl rfl (by kernel_rfl) (fun _ _ _ h => h) (Or.inl ⟨by rfl, ?_⟩) ?_ ?_
              rotate_left
              ·intro w'
               go_simp
               with_reducible rfl
              rotate_left
              ·simp only [Act.put, s1, s2, s3, q1e, q1i]
               rfl
              refine q1u (i := 2) (N := some 42) (v := ?_) (a' := ?_) #[false, true, true, false, false, false, false] rfl rfl (by kernel_rfl) (fun _ _ _ h => h) (Or.inl ⟨by rfl, ?_⟩) ?_ ?_
              rotate_left
              ·intro w'
               go_simp
               with_reducible rfl
              rotate_left
              ·simp only [Act.put, s1, s2, s3, q1e, q1i]
               rfl
              refine q1u (i := 3) (N := some 43) (v := ?_) (a' := ?_) #[false, true, true, true, false, false, false] rfl rfl (by kernel_rfl) (fun _ _ _ h => h) (Or.inl ⟨by rfl, ?_⟩) ?_ ?_
              rotate_left
              ·intro w'
               go_simp
               with_reducible rfl
              rotate_left
              ·simp only [Act.put, s1, s2, s3, q1e, q1i]
               rfl
              refine take_ (i := 0) (N := some 40) (v := ?_) (a' := ?_) #[true, true, true, true, false, false, false] rfl rfl (by kernel_rfl) (fun _ _ _ h => h) (Or.inl ⟨by rfl, ?_⟩) hHeld ?_ ?_
              rotate_left
              ·rintro w' ⟨s0, s1, s2⟩
               go_simp
               with_reducible rfl
              rotate_left
              ·simp only [Act.put, s1, s2, s3, q1e, q1i]
               rfl
              refine take_ (i := 4) (N := some 44) (v := ?_) (a' := ?_) #[true, true, true, true, true, false, false] rfl rfl (by kernel_rfl) (fun _ _ _ h => h) (Or.inl ⟨by rfl, ?_⟩) hHeld ?_ ?_
              rotate_left
              ·rintro w' ⟨s0, s1, s2⟩
               go_simp
               with_reducible rfl
              rotate_left
              ·simp only [Act.put, s1, s2, s3, q1e, q1i]
               rfl
              refine one_ (i := 5) (N := some 45) #[true, true, true, true, true, true, false] rfl rfl (by kernel_rfl) (by decide) (fun K hK => ?_)
              refine goes_ Tryd.func26 (by kernel_rfl) rfl #[.agg #[.slice A0_0 l0_0.length c0_0, .bool a0_1], .int .i64 (rd l1 x7_3), .int .i64 0] (by rfl) rfl rfl (by (try simp only [List.map_toArray, List.map_cons, List.map_nil]); first | done | rfl | (simp only [List.length_drop, List.length_take]; rfl)) ?_
              with_reducible refine (q0j.calls kj15 _ _ l0_0 a0_1 (rd l1 x7_3) 0 true _ ?side1 ?side2 A21.out).mono ?_
              (case side1 => repeat (first | exact (Kd.C_below HR0_0.out HB.out) | (with_reducible refine cA ?_ _) | (with_reducible refine cN ?_ _) | (with_reducible refine cD ?_)))
              (case side2 => exact HC0_0.out)
              rintro e w24 ⟨rfl, hb⟩
              refine ⟨_, rfl, ?_⟩
              have n0_ := aS (q16 (g := gb235) (o := .cells #[.slice A0_0 l0_0.length c0_0, .bool a0_1] 24 (0, 0)) (by (with_reducible repeat (first | refine kN ?_ _ | refine kD ?_ | refine kA ?_ _)); exact BK235.out) hb)
              have n1_ := aS (q09 (by repeat (first | (with_reducible first | exact HB.out | apply bA | apply bN | apply bD | refine bS ?_ GE235.out) | exact HB.out)) hb)
              clear BK235
              clear HB
              have BK235 := n0_
              have HB := n1_
              clear n0_ n1_
              (try clear hb)
              (try clear hb2)
              (try clear hk)
              (try clear hi)
              refine hK.out _ _ ⟨(q02 BK235.out 0).trans rfl, (q02 BK235.out 1).trans rfl, ((HB.out.cell (World.block_lt_of_cell? w _ hw239_0)).trans hw239_0)⟩ (fun hHeld => ?_)
              clear hK K
              refine norm_ (a' := ?_) ?_ ?_
              rotate_left
              ·show Act.put _ (some 45) _ = _
               simp only [Act.put, s1, s2, s3, q1e, q1i]
               rfl
              refine q1u (i := 6) (N := some 46) (v := ?_) (a' := ?_) #[true, true, true, true, true, true, true] rfl rfl (by kernel_rfl) (fun _ _ _ h => h) (Or.inl ⟨by rfl, ?_⟩) ?_ ?_
              rotate_left
              ·intro w'
               go_simp
               with_reducible rfl
              rotate_left
              ·simp only [Act.put, s1, s2, s3, q1e, q1i]
               rfl
              refine done_ (by kernel_rfl) ?_
              try go_wp2
              go_roundg kj15
              case measure => have := HK1.out; have := HJ6.out; have := HK3.out; have := HJ15.out; omega
              case rel => exact ⟨(x5_3), (wrap64 (x7_3 + 1)), (by first | rfl | (simp; done) | simp [*]), (by first | rfl | (simp; done) | simp [*]), H', ⟨by have := HK1.out; have := HJ6.out; have := HK3.out; have := HJ15.out; omega⟩, ⟨by (with_reducible repeat (first | refine kN ?_ _ | refine kD ?_ | refine kA ?_ _)); exact BK235.out⟩, ⟨by repeat (first | (with_reducible first | exact HB.out | apply bA | apply bN | apply bD | refine bS ?_ GE235.out) | exact HB.out)⟩⟩
             ·replace c22 := Bool.eq_false_iff.mpr c22
              subst c22
              have H1 : (q06.l1 kj15 l1 5 (wrap64 (x7_3 + 1)) l0_0 a0_1) = some r := by rw [if_neg (show ¬ (false = true) by decide)] at H; exact H
              clear H
              have H := H1
              clear H1
              have H' := aS H
              clear H
              try go_wp2
              have n0_ := aS (blk_drew BK235.out)
              have n1_ := aS (q2f HB.out)
              clear BK235
              clear HB
              have BK235 := n0_
              have HB := n1_
              clear n0_ n1_
              have p239 : 0 ≤ (x7_3 : Int) := od (by first | (with_reducible assumption) | assumption)
              have q239 : x7_3 < (l1.length : Int) := od (by first | (with_reducible assumption) | assumption)
              obtain ⟨ad239, e239, hx239_0⟩ := Kd.at_int HR1.out x7_3 p239 q239
              have hw239_0 := hx239_0
              cases e239
              replace hx239_0 := (HB.out.cell (World.block_lt_of_cell? w _ hx239_0)).trans hx239_0
              replace p239 := eq_true p239
              replace q239 := eq_true q239
              refine start_ (n := 7) (S := fun w' => w'.cell? ⟨gb235, 0, none⟩ = some (.slice A0_0 l0_0.length c0_0) ∧ w'.cell? ⟨gb235, 1, none⟩ = some (.bool a0_1) ∧ w'.cell? (ad239.add (x7_3).toNat) = some (.int .i64 (rd l1 x7_3))) (ds := []) #[false, false, false, false, false, false, false] (by kernel_rfl) rfl rfl ⟨(q02 BK235.out 0).trans rfl, (q02 BK235.out 1).trans rfl, ((HB.out.cell (World.block_lt_of_cell? w _ hw239_0)).trans hw239_0)⟩ (fun hHeld => ?_)
              generalize wc.drew = w25 at BK235 HB hx239_0 hHeld ⊢
              refine q1u (i := 1) (N := some 41) (v := ?_) (a' := ?_) #[false, true, false, false, false, false, false] rfl rfl (by kernel_rfl) (fun _ _ _ h => h) (Or.inl ⟨by rfl, ?_⟩) ?_ ?_
              rotate_left
              ·intro w'
               go_simp
               with_reducible rfl
              rotate_left
              ·simp only [Act.put, s1, s2, s3, q1e, q1i]
               rfl
              refine q1u (i := 2) (N := some 42) (v := ?_) (a' := ?_) #[false, true, true, false, false, false, false] rfl rfl (by kernel_rfl) (fun _ _ _ h => h) (Or.inl ⟨by rfl, ?_⟩) ?_ ?_
              rotate_left
              ·intro w'
               go_simp
               with_reducible rfl
              rotate_left
              ·simp only [Act.put, s1, s2, s3, q1e, q1i]
               rfl
              refine q1u (i := 3) (N := some 43) (v := ?_) (a' := ?_) #[false, true, true, true, false, false, false] rfl rfl (by kernel_rfl) (fun _ _ _ h => h) (Or.inl ⟨by rfl, ?_⟩) ?_ ?_
              rotate_left
              ·intro w'
               go_simp
               with_reducible rfl
              rotate_left
              ·simp only [Act.put, s1, s2, s3, q1e, q1i]
               rfl
              refine take_ (i := 0) (N := some 40) (v := ?_) (a' := ?_) #[true, true, true, true, false, false, false] rfl rfl (by kernel_rfl) (fun _ _ _ h => h) (Or.inl ⟨by rfl, ?_⟩) hHeld ?_ ?_
              rotate_left
              ·rintro w' ⟨s0, s1, s2⟩
               go_simp
               with_reducible rfl
              rotate_left
              ·simp only [Act.put, s1, s2, s3, q1e, q1i]
               rfl
              refine take_ (i := 4) (N := some 44) (v := ?_) (a' := ?_) #[true, true, true, true, true, false, false] rfl rfl (by kernel_rfl) (fun _ _ _ h => h) (Or.inl ⟨by rfl, ?_⟩) hHeld ?_ ?_
              rotate_left
              ·rintro w' ⟨s0, s1, s2⟩
               go_simp
               with_reducible rfl
              rotate_left
              ·simp only [Act.put, s1, s2, s3, q1e, q1i]
               rfl
              refine one_ (i := 5) (N := some 45) #[true, true, true, true, true, true, false] rfl rfl (by kernel_rfl) (by decide) (fun K hK => ?_)
              refine goes_ Tryd.func26 (by kernel_rfl) rfl #[.agg #[.slice A0_0 l0_0.length c0_0, .bool a0_1], .int .i64 (rd l1 x7_3), .int .i64 0] (by rfl) rfl rfl (by (try simp only [List.map_toArray, List.map_cons, List.map_nil]); first | done | rfl | (simp only [List.length_drop, List.length_take]; rfl)) ?_
              with_reducible refine (q0j.calls kj15 _ _ l0_0 a0_1 (rd l1 x7_3) 0 false _ ?side1 ?side2 A21.out).mono ?_
              (case side1 => repeat (first | exact (Kd.C_below HR0_0.out HB.out) | (with_reducible refine cA ?_ _) | (with_reducible refine cN ?_ _) | (with_reducible refine cD ?_)))
              (case side2 => exact HC0_0.out)
              rintro e w26 ⟨rfl, hb⟩
              refine ⟨_, rfl, ?_⟩
              have n0_ := aS (q16 (g := gb235) (o := .cells #[.slice A0_0 l0_0.length c0_0, .bool a0_1] 24 (0, 0)) (by (with_reducible repeat (first | refine kN ?_ _ | refine kD ?_ | refine kA ?_ _)); exact BK235.out) hb)
              have n1_ := aS (q09 (by repeat (first | (with_reducible first | exact HB.out | apply bA | apply bN | apply bD | refine bS ?_ GE235.out) | exact HB.out)) hb)
              clear BK235
              clear HB
              have BK235 := n0_
              have HB := n1_
              clear n0_ n1_
              (try clear hb)
              (try clear hb2)
              (try clear hk)
              (try clear hi)
              refine hK.out _ _ ⟨(q02 BK235.out 0).trans rfl, (q02 BK235.out 1).trans rfl, ((HB.out.cell (World.block_lt_of_cell? w _ hw239_0)).trans hw239_0)⟩ (fun hHeld => ?_)
              clear hK K
              refine norm_ (a' := ?_) ?_ ?_
              rotate_left
              ·show Act.put _ (some 45) _ = _
               simp only [Act.put, s1, s2, s3, q1e, q1i]
               rfl
              refine q1u (i := 6) (N := some 46) (v := ?_) (a' := ?_) #[true, true, true, true, true, true, true] rfl rfl (by kernel_rfl) (fun _ _ _ h => h) (Or.inl ⟨by rfl, ?_⟩) ?_ ?_
              rotate_left
              ·intro w'
               go_simp
               with_reducible rfl
              rotate_left
              ·simp only [Act.put, s1, s2, s3, q1e, q1i]
               rfl
              refine done_ (by kernel_rfl) ?_
              try go_wp2
              go_roundg kj15
              case measure => have := HK1.out; have := HJ6.out; have := HK3.out; have := HJ15.out; omega
              case rel => exact ⟨(5), (wrap64 (x7_3 + 1)), (by first | rfl | (simp; done) | simp [*]), (by first | rfl | (simp; done) | simp [*]), H', ⟨by have := HK1.out; have := HJ6.out; have := HK3.out; have := HJ15.out; omega⟩, ⟨by (with_reducible repeat (first | refine kN ?_ _ | refine kD ?_ | refine kA ?_ _)); exact BK235.out⟩, ⟨by repeat (first | (with_reducible first | exact HB.out | apply bA | apply bN | apply bD | refine bS ?_ GE235.out) | exact HB.out)⟩⟩
            ·rw [if_neg c20] at H
             exact absurd H (by simp)
           ·rw [if_neg c19] at H
            exact absurd H (by simp)
          ·replace c18 := Bool.eq_false_iff.mpr c18
           subst c18
           have H1 : (some x5_3) = some r := by rw [if_neg (show ¬ (false = true) by decide)] at H; exact H
           clear H
           have H := H1
           clear H1
           obtain rfl := Option.some.inj H
           go_wp2
           go_ret
           exact ⟨by first | rfl | (simp [q0b, q0a] <;> rfl) | (simp [*, q0b, q0a] <;> rfl), by repeat (first | (with_reducible first | exact HB.out | apply bA | apply bN | apply bD | refine bS ?_ GE235.out) | exact HB.out)⟩
end Go.Proofs.YthjnallbbhnndaaDoor.XWk
