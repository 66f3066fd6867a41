/- Written by this session's program (wip/xp) out of the translation as Lean prints it: for each Go function a Lean function and the proof that the code answers just so, on the conditions named in each statement. -/
import Derived.Test.YthjnallbbhnndaaDoorG1
namespace Go.Proofs.YthjnallbbhnndaaDoor.XWk
open Go.Proofs.YthjnallbbhnndaaDoor.Short Go.RowKit Go.Proofs.YthjnallbbhnndaaDoorW.PrintWords Go.Proofs.YthjnallbbhnndaaDoorW.PrintLast Go.Proofs.YthjnallbbhnndaaDoorW.PrintMore
attribute [local go_sem] q27 q25 q2l q2k q1w q1v q26 q24   -- for this text's walks alone
set_option linter.unusedVariables false
set_option linter.unusedSimpArgs false
def q1x.l0 : Nat → Int → Int → List (S43) → Bool → Option (Int)
 | 0, _, _, _, _ => none
 | k + 1, x1, x4, x141000, x141001 => if 0 ≤ x1 then (if x1 < (x141000.length : Int) then (if ((q05 x141000 x1).f4) ≥ 0 then (if x4 ≤ (x141000.length : Int) then (q1x.l0 k ((q05 x141000 x1).f4) (wrap64 (x4 + 1)) x141000 x141001) else (some x4)) else (some x4)) else (none)) else (none)
def q1x.f (k : Nat) (l0_0 : List (S43)) (a0_1 : Bool) (a1 : Int) : Option (Int) := q1x.l0 k a1 0 l0_0 a0_1
theorem q1x.mono_l : ∀ k, (∀ y0 y1 y2 y3, LeO (q1x.l0 k y0 y1 y2 y3) (q1x.l0 (k + 1) y0 y1 y2 y3))
 | 0 => fun _ _ _ _ r h => by simp [q1x.l0] at h
 | k + 1 => by
  have ih0 := q1x.mono_l k
  ·intro y0 y1 y2 y3
   unfold q1x.l0
   repeat' first
   | (with_reducible exact ih0 _ _ _ _)
   | (with_reducible exact LeO.refl _)
   | (with_reducible exact LeO.none _)
   | (with_reducible refine LeO.ite ?_ ?_)
   | (with_reducible refine LeO.bind ?_ (fun _ => ?_))
   | exact ih0 _ _ _ _
   | exact LeO.none _
   | refine LeO.ite ?_ ?_
   | refine LeO.bind ?_ (fun _ => ?_)
theorem q1x.mono : ∀ a0 a1 a2 k, LeO (q1x.f k a0 a1 a2) (q1x.f (k + 1) a0 a1 a2) := by
 intro a0 a1 a2 k
 have ih0 := q1x.mono_l k
 unfold q1x.f
 repeat' first
  | (with_reducible exact ih0 _ _ _ _)
  | (with_reducible exact LeO.refl _)
  | (with_reducible exact LeO.none _)
  | (with_reducible refine LeO.ite ?_ ?_)
  | (with_reducible refine LeO.bind ?_ (fun _ => ?_))
  | exact ih0 _ _ _ _
  | exact LeO.none _
  | refine LeO.ite ?_ ?_
  | refine LeO.bind ?_ (fun _ => ?_)
set_option maxHeartbeats 8000000 in
set_option maxRecDepth 100000 in
theorem q1x.calls (k : Nat) (A0_0 : Option Addr) (c0_0 : Nat) (l0_0 : List (S43)) (a0_1 : Bool) (a1 : Int) (r : Int) (w : World) (hr0_0 : Kd.C k43 w A0_0 l0_0.length l0_0) (hc0_0 : l0_0.length ≤ c0_0) (h : q1x.f k l0_0 a0_1 a1 = some r) :
 Calls Tryd.prog 102 #[.agg #[.slice A0_0 l0_0.length c0_0, .bool a0_1], .int .i64 a1] w fun e w' => e = .returned (.int .i64 r) ∧ Below w.heap.size w w' := by
 have hu24 := Tryd.underlying24
 have HR0_0 := aS hr0_0
 have HC0_0 := aS hc0_0
 clear hr0_0 hc0_0
 have HB := aS (Below.refl w.heap.size w)
 have H : (q1x.l0 k a1 0 l0_0 a0_1) = some r := h
 clear h
 have H' := aS H
 clear H
 go_enter Tryd.func102, Tryd.ntmps102
 go_wp2_with (first | ((with_reducible refine q15 (N := 2) rfl ?_); (try (refine q1t (by rfl) ?_; dsimp only)); refine q0y ?hg (N := 2) ?hd (cs := #[.slice A0_0 l0_0.length c0_0, .bool a0_1]) (t := 24) ?hr ?_; (case hd => rfl); (case hg => rfl); (case hr => first | (go_simp; done) | (go_simp; rfl)); intro gb140 hg w3 hbox hb; have n0_ := aS (q09 (by repeat (first | (with_reducible first | exact HB.out | apply bA | apply bN | apply bD) | exact HB.out)) hb); have n1_ := aS (hbox); have n2_ := aS ((by rw [hg]; exact (q0k (by repeat (first | (with_reducible first | exact HB.out | apply bA | apply bN | apply bD) | exact HB.out))) : w.heap.size ≤ gb140)); have n3_ := aS ((by rw [hg]; exact (q0k (by repeat (first | (with_reducible first | exact HB.out | apply bA | apply bN | apply bD) | exact HB.out))) : w.heap.size ≤ gb140)); clear HB; have HB := n0_; have BK140 := n1_; have GW140 := n2_; have GE140 := n3_; clear n0_ n1_ n2_ n3_; clear hb hbox hg))
 go_loopg [1, 4] k (fun kq v1 v4 w' => ∃ (x1_1 : Int) (x4_1 : Int), v1 = .int .i64 x1_1 ∧ v4 = .int .i64 x4_1 ∧ Aside0 (q1x.l0 kq x1_1 x4_1 l0_0 a0_1 = some r) ∧ Aside0 (kq ≤ k) ∧ Aside0 (w'.heap[gb140]? = some (.cells #[(.slice A0_0 l0_0.length c0_0), .bool a0_1] 24 (0, 0))) ∧ Aside0 (Below w.heap.size w w'))
 case atStart => exact ⟨(a1), (0), (by first | rfl | (simp; done) | simp [*]), (by first | rfl | (simp; done) | simp [*]), H', ⟨Nat.le_refl _⟩, ⟨by (with_reducible repeat (first | refine kN ?_ _ | refine kD ?_ | refine kA ?_ _)); exact BK140.out⟩, ⟨by repeat (first | (with_reducible first | exact HB.out | apply bA | apply bN | apply bD | refine bS ?_ GE140.out) | exact HB.out)⟩⟩
 case round =>
  clear H'
  try clear c1
  try clear p2
  obtain ⟨x1_1, x4_1, rfl, rfl, HA, HK1, BK140, HB⟩ := hrel
  cases gk with
  | zero => exact absurd HA.out (by simp [q1x.l0])
  | succ k1 =>
   have H := HA.out
   clear HA
   simp only [q1x.l0] at H
   by_cases c4 : 0 ≤ x1_1
   ·rw [if_pos c4] at H
    have c4b0 : decide (0 ≤ x1_1) = true := decide_eq_true c4
    clear c4
    by_cases c5 : x1_1 < (l0_0.length : Int)
    ·rw [if_pos c5] at H
     have c5b0 : decide (x1_1 < (l0_0.length : Int)) = true := decide_eq_true c5
     clear c5
     by_cases c6 : ((q05 l0_0 x1_1).f4) ≥ 0
     ·rw [if_pos c6] at H
      have c6b0 : decide (0 ≤ ((q05 l0_0 x1_1).f4)) = true := decide_eq_true c6
      clear c6
      by_cases c7 : x4_1 ≤ (l0_0.length : Int)
      ·rw [if_pos c7] at H
       have c7b0 : decide (x4_1 ≤ (l0_0.length : Int)) = true := decide_eq_true c7
       clear c7
       have H' := aS H
       clear H
       have hcz8_0 : wr.cell? ⟨gb140, 0, none⟩ = some (.slice A0_0 l0_0.length c0_0) := (q02 BK140.out 0).trans rfl
       have hcz8_1 : wr.cell? ⟨gb140, 1, none⟩ = some (.bool a0_1) := (q02 BK140.out 1).trans rfl
       have hfz8_0 := q01 BK140.out 0
       have hfz8_1 := q01 BK140.out 1
       have p141 : 0 ≤ (x1_1 : Int) := od (by first | (with_reducible assumption) | assumption)
       have q141 : x1_1 < (l0_0.length : Int) := od (by first | (with_reducible assumption) | assumption)
       obtain ⟨ad141, A141_2, c141_2, A141_5, c141_5, e141, hx141_0, hx141_1, hx141_2, hx141_3, hx141_4, hx141_5, hl141_2, hi141_2, hl141_5, hi141_5⟩ := q1j HR0_0.out x1_1 p141 q141
       cases e141
       replace hx141_0 := (HB.out.cell (World.block_lt_of_cell? w _ hx141_0)).trans hx141_0
       replace hx141_1 := (HB.out.cell (World.block_lt_of_cell? w _ hx141_1)).trans hx141_1
       replace hx141_2 := (HB.out.cell (World.block_lt_of_cell? w _ hx141_2)).trans hx141_2
       replace hx141_3 := (HB.out.cell (World.block_lt_of_cell? w _ hx141_3)).trans hx141_3
       replace hx141_4 := (HB.out.cell (World.block_lt_of_cell? w _ hx141_4)).trans hx141_4
       replace hx141_5 := (HB.out.cell (World.block_lt_of_cell? w _ hx141_5)).trans hx141_5
       have HR141_2 := aS hi141_2
       have HC141_2 := aS hl141_2
       clear hi141_2 hl141_2
       have HR141_5 := aS hi141_5
       have HC141_5 := aS hl141_5
       clear hi141_5 hl141_5
       replace p141 := eq_true p141
       replace q141 := eq_true q141
       have p142 : 0 ≤ (x1_1 : Int) := od (by first | (with_reducible assumption) | assumption)
       have q142 : x1_1 < (l0_0.length : Int) := od (by first | (with_reducible assumption) | assumption)
       obtain ⟨ad142, A142_2, c142_2, A142_5, c142_5, e142, hx142_0, hx142_1, hx142_2, hx142_3, hx142_4, hx142_5, hl142_2, hi142_2, hl142_5, hi142_5⟩ := q1j HR0_0.out x1_1 p142 q142
       obtain rfl : ad141 = ad142 := (by injection e142)
       replace hx142_0 := (HB.out.cell (World.block_lt_of_cell? w _ hx142_0)).trans hx142_0
       replace hx142_1 := (HB.out.cell (World.block_lt_of_cell? w _ hx142_1)).trans hx142_1
       replace hx142_2 := (HB.out.cell (World.block_lt_of_cell? w _ hx142_2)).trans hx142_2
       replace hx142_3 := (HB.out.cell (World.block_lt_of_cell? w _ hx142_3)).trans hx142_3
       replace hx142_4 := (HB.out.cell (World.block_lt_of_cell? w _ hx142_4)).trans hx142_4
       replace hx142_5 := (HB.out.cell (World.block_lt_of_cell? w _ hx142_5)).trans hx142_5
       have HR142_2 := aS hi142_2
       have HC142_2 := aS hl142_2
       clear hi142_2 hl142_2
       have HR142_5 := aS hi142_5
       have HC142_5 := aS hl142_5
       clear hi142_5 hl142_5
       replace p142 := eq_true p142
       replace q142 := eq_true q142
       have ea_ := Option.some.inj (hx141_2.symm.trans hx142_2)
       injection ea_ with ea_ en_ ec_
       subst ea_
       subst ec_
       clear en_
       have ea_ := Option.some.inj (hx141_5.symm.trans hx142_5)
       injection ea_ with ea_ en_ ec_
       subst ea_
       subst ec_
       clear en_
       go_wp2
       go_roundg k1
       case measure => have := HK1.out; omega
       case rel => exact ⟨((q05 l0_0 x1_1).f4), (wrap64 (x4_1 + 1)), (by first | rfl | (simp; done) | simp [*]), (by first | rfl | (simp; done) | simp [*]), H', ⟨by have := HK1.out; omega⟩, ⟨by (with_reducible repeat (first | refine kN ?_ _ | refine kD ?_ | refine kA ?_ _)); exact BK140.out⟩, ⟨by repeat (first | (with_reducible first | exact HB.out | apply bA | apply bN | apply bD | refine bS ?_ GE140.out) | exact HB.out)⟩⟩
      ·rw [if_neg c7] at H
       have c7b0 : decide (x4_1 ≤ (l0_0.length : Int)) = false := decide_eq_false c7
       clear c7
       obtain rfl := Option.some.inj H
       have hcz9_0 : wr.cell? ⟨gb140, 0, none⟩ = some (.slice A0_0 l0_0.length c0_0) := (q02 BK140.out 0).trans rfl
       have hcz9_1 : wr.cell? ⟨gb140, 1, none⟩ = some (.bool a0_1) := (q02 BK140.out 1).trans rfl
       have hfz9_0 := q01 BK140.out 0
       have hfz9_1 := q01 BK140.out 1
       have p141 : 0 ≤ (x1_1 : Int) := od (by first | (with_reducible assumption) | assumption)
       have q141 : x1_1 < (l0_0.length : Int) := od (by first | (with_reducible assumption) | assumption)
       obtain ⟨ad141, A141_2, c141_2, A141_5, c141_5, e141, hx141_0, hx141_1, hx141_2, hx141_3, hx141_4, hx141_5, hl141_2, hi141_2, hl141_5, hi141_5⟩ := q1j HR0_0.out x1_1 p141 q141
       cases e141
       replace hx141_0 := (HB.out.cell (World.block_lt_of_cell? w _ hx141_0)).trans hx141_0
       replace hx141_1 := (HB.out.cell (World.block_lt_of_cell? w _ hx141_1)).trans hx141_1
       replace hx141_2 := (HB.out.cell (World.block_lt_of_cell? w _ hx141_2)).trans hx141_2
       replace hx141_3 := (HB.out.cell (World.block_lt_of_cell? w _ hx141_3)).trans hx141_3
       replace hx141_4 := (HB.out.cell (World.block_lt_of_cell? w _ hx141_4)).trans hx141_4
       replace hx141_5 := (HB.out.cell (World.block_lt_of_cell? w _ hx141_5)).trans hx141_5
       have HR141_2 := aS hi141_2
       have HC141_2 := aS hl141_2
       clear hi141_2 hl141_2
       have HR141_5 := aS hi141_5
       have HC141_5 := aS hl141_5
       clear hi141_5 hl141_5
       replace p141 := eq_true p141
       replace q141 := eq_true q141
       go_wp2
       go_ret
       exact ⟨by first | rfl | (simp [q0b, q0a] <;> rfl) | (simp [*, q0b, q0a] <;> rfl), by repeat (first | (with_reducible first | exact HB.out | apply bA | apply bN | apply bD | refine bS ?_ GE140.out) | exact HB.out)⟩
     ·rw [if_neg c6] at H
      have c6b0 : decide (0 ≤ ((q05 l0_0 x1_1).f4)) = false := decide_eq_false c6
      clear c6
      obtain rfl := Option.some.inj H
      have hcz10_0 : wr.cell? ⟨gb140, 0, none⟩ = some (.slice A0_0 l0_0.length c0_0) := (q02 BK140.out 0).trans rfl
      have hcz10_1 : wr.cell? ⟨gb140, 1, none⟩ = some (.bool a0_1) := (q02 BK140.out 1).trans rfl
      have hfz10_0 := q01 BK140.out 0
      have hfz10_1 := q01 BK140.out 1
      have p141 : 0 ≤ (x1_1 : Int) := od (by first | (with_reducible assumption) | assumption)
      have q141 : x1_1 < (l0_0.length : Int) := od (by first | (with_reducible assumption) | assumption)
      obtain ⟨ad141, A141_2, c141_2, A141_5, c141_5, e141, hx141_0, hx141_1, hx141_2, hx141_3, hx141_4, hx141_5, hl141_2, hi141_2, hl141_5, hi141_5⟩ := q1j HR0_0.out x1_1 p141 q141
      cases e141
      replace hx141_0 := (HB.out.cell (World.block_lt_of_cell? w _ hx141_0)).trans hx141_0
      replace hx141_1 := (HB.out.cell (World.block_lt_of_cell? w _ hx141_1)).trans hx141_1
      replace hx141_2 := (HB.out.cell (World.block_lt_of_cell? w _ hx141_2)).trans hx141_2
      replace hx141_3 := (HB.out.cell (World.block_lt_of_cell? w _ hx141_3)).trans hx141_3
      replace hx141_4 := (HB.out.cell (World.block_lt_of_cell? w _ hx141_4)).trans hx141_4
      replace hx141_5 := (HB.out.cell (World.block_lt_of_cell? w _ hx141_5)).trans hx141_5
      have HR141_2 := aS hi141_2
      have HC141_2 := aS hl141_2
      clear hi141_2 hl141_2
      have HR141_5 := aS hi141_5
      have HC141_5 := aS hl141_5
      clear hi141_5 hl141_5
      replace p141 := eq_true p141
      replace q141 := eq_true q141
      go_wp2
      go_ret
      exact ⟨by first | rfl | (simp [q0b, q0a] <;> rfl) | (simp [*, q0b, q0a] <;> rfl), by repeat (first | (with_reducible first | exact HB.out | apply bA | apply bN | apply bD | refine bS ?_ GE140.out) | exact HB.out)⟩
    ·rw [if_neg c5] at H
     exact absurd H (by simp)
   ·rw [if_neg c4] at H
    exact absurd H (by simp)
mutual
def q1a.l0 : Nat → List (S43) → Int → Int → List (S43) → Bool → Option (Int)
 | 0, _, _, _, _, _ => none
 | k + 1, x20, x21, x22, x144000, x144001 => if x22 < x21 then (if 0 ≤ x22 then (if x22 < (x20.length : Int) then (if ((((q05 x20 x22).f0) == 1) != (x22 == 0)) = true then (some 3) else ((q1h.f k ((q05 x20 x22).f0) ((q05 x20 x22).f1) ((q05 x20 x22).f2) ((q05 x20 x22).f3) ((q05 x20 x22).f4) ((q05 x20 x22).f5)).bind fun t146 => (if t146 = 0 then (q1a.l0 k x20 x21 (wrap64 (x22 + 1)) x144000 x144001) else (some t146)))) else (none)) else (none)) else ((q0w.f k x144000 x144001).bind fun t147 => (if t147 = 0 then (q1a.l1 k (x144000.length : Int) 0 x144000 x144001) else (some t147)))
def q1a.l1 : Nat → Int → Int → List (S43) → Bool → Option (Int)
 | 0, _, _, _, _ => none
 | k + 1, x46, x47, x144000, x144001 => if x47 < x46 then ((q1x.f k x144000 x144001 x47).bind fun t148 => (if t148 > (x144000.length : Int) then (some 8) else (if t148 > 40 then (some 2) else (q1a.l1 k x46 (wrap64 (x47 + 1)) x144000 x144001)))) else (some 0)
end
def q1a.f (k : Nat) (l0_0 : List (S43)) (a0_1 : Bool) : Option (Int) := if (l0_0.length : Int) > 200 then (some 2) else (if (l0_0.length : Int) = 0 then (some 3) else (q1a.l0 k l0_0 (l0_0.length : Int) 0 l0_0 a0_1))
theorem q1a.mono_l : ∀ k, (∀ y0 y1 y2 y3 y4, LeO (q1a.l0 k y0 y1 y2 y3 y4) (q1a.l0 (k + 1) y0 y1 y2 y3 y4)) ∧ (∀ y0 y1 y2 y3, LeO (q1a.l1 k y0 y1 y2 y3) (q1a.l1 (k + 1) y0 y1 y2 y3))
 | 0 => ⟨fun _ _ _ _ _ r h => by simp [q1a.l0] at h, fun _ _ _ _ r h => by simp [q1a.l1] at h⟩
 | k + 1 => by
  obtain ⟨ih0, ih1⟩ := q1a.mono_l k
  refine ⟨?_, ?_⟩
  ·intro y0 y1 y2 y3 y4
   unfold q1a.l0
   repeat' first
   | (with_reducible exact ih0 _ _ _ _ _)
   | (with_reducible exact ih1 _ _ _ _)
   | (with_reducible exact q0w.mono _ _ _)
   | (with_reducible exact q1h.mono _ _ _ _ _ _ _)
   | (with_reducible exact q1x.mono _ _ _ _)
   | (with_reducible exact LeO.refl _)
   | (with_reducible exact LeO.none _)
   | (with_reducible refine LeO.ite ?_ ?_)
   | (with_reducible refine LeO.bind ?_ (fun _ => ?_))
   | exact ih0 _ _ _ _ _
   | exact ih1 _ _ _ _
   | exact q0w.mono _ _ _
   | exact q1h.mono _ _ _ _ _ _ _
   | exact q1x.mono _ _ _ _
   | exact LeO.none _
   | refine LeO.ite ?_ ?_
   | refine LeO.bind ?_ (fun _ => ?_)
  ·intro y0 y1 y2 y3
   unfold q1a.l1
   repeat' first
   | (with_reducible exact ih0 _ _ _ _ _)
   | (with_reducible exact ih1 _ _ _ _)
   | (with_reducible exact q0w.mono _ _ _)
   | (with_reducible exact q1h.mono _ _ _ _ _ _ _)
   | (with_reducible exact q1x.mono _ _ _ _)
   | (with_reducible exact LeO.refl _)
   | (with_reducible exact LeO.none _)
   | (with_reducible refine LeO.ite ?_ ?_)
   | (with_reducible refine LeO.bind ?_ (fun _ => ?_))
   | exact ih0 _ _ _ _ _
   | exact ih1 _ _ _ _
   | exact q0w.mono _ _ _
   | exact q1h.mono _ _ _ _ _ _ _
   | exact q1x.mono _ _ _ _
   | exact LeO.none _
   | refine LeO.ite ?_ ?_
   | refine LeO.bind ?_ (fun _ => ?_)
theorem q1a.mono : ∀ a0 a1 k, LeO (q1a.f k a0 a1) (q1a.f (k + 1) a0 a1) := by
 intro a0 a1 k
 obtain ⟨ih0, ih1⟩ := q1a.mono_l k
 unfold q1a.f
 repeat' first
  | (with_reducible exact ih0 _ _ _ _ _)
  | (with_reducible exact ih1 _ _ _ _)
  | (with_reducible exact q0w.mono _ _ _)
  | (with_reducible exact q1h.mono _ _ _ _ _ _ _)
  | (with_reducible exact q1x.mono _ _ _ _)
  | (with_reducible exact LeO.refl _)
  | (with_reducible exact LeO.none _)
  | (with_reducible refine LeO.ite ?_ ?_)
  | (with_reducible refine LeO.bind ?_ (fun _ => ?_))
  | exact ih0 _ _ _ _ _
  | exact ih1 _ _ _ _
  | exact q0w.mono _ _ _
  | exact q1h.mono _ _ _ _ _ _ _
  | exact q1x.mono _ _ _ _
  | exact LeO.none _
  | refine LeO.ite ?_ ?_
  | refine LeO.bind ?_ (fun _ => ?_)
set_option maxHeartbeats 8000000 in
set_option maxRecDepth 100000 in
theorem q1a.calls (k : Nat) (A0_0 : Option Addr) (c0_0 : Nat) (l0_0 : List (S43)) (a0_1 : Bool) (r : Int) (w : World) (hr0_0 : Kd.C k43 w A0_0 l0_0.length l0_0) (hc0_0 : l0_0.length ≤ c0_0) (h : q1a.f k l0_0 a0_1 = some r) :
 Calls Tryd.prog 52 #[.agg #[.slice A0_0 l0_0.length c0_0, .bool a0_1]] w fun e w' => e = .returned (.int .i64 r) ∧ Below w.heap.size w w' := by
 have hu24 := Tryd.underlying24
 have hu43 := Tryd.underlying43
 have HR0_0 := aS hr0_0
 have HC0_0 := aS hc0_0
 clear hr0_0 hc0_0
 have HB := aS (Below.refl w.heap.size w)
 have H : (if (l0_0.length : Int) > 200 then (some 2) else (if (l0_0.length : Int) = 0 then (some 3) else (q1a.l0 k l0_0 (l0_0.length : Int) 0 l0_0 a0_1))) = some r := h
 clear h
 by_cases c2 : (l0_0.length : Int) > 200
 ·rw [if_pos c2] at H
  have c2b0 : decide (200 < (l0_0.length : Int)) = true := decide_eq_true c2
  have c2b1 : decide (200 < l0_0.length) = true := decide_eq_true (by omega)
  clear c2
  obtain rfl := Option.some.inj H
  go_enter Tryd.func52, Tryd.ntmps52
  go_wp2_with (first | ((with_reducible refine q15 (N := 1) rfl ?_); refine q0y ?hg (N := 1) ?hd (cs := #[.slice A0_0 l0_0.length c0_0, .bool a0_1]) (t := 24) ?hr ?_; (case hd => rfl); (case hg => rfl); (case hr => first | (go_simp; done) | (go_simp; rfl)); intro gb143 hg w3 hbox hb; have n0_ := aS (q09 (by repeat (first | (with_reducible first | exact HB.out | apply bA | apply bN | apply bD) | exact HB.out)) hb); have n1_ := aS (hbox); have n2_ := aS ((by rw [hg]; exact (q0k (by repeat (first | (with_reducible first | exact HB.out | apply bA | apply bN | apply bD) | exact HB.out))) : w.heap.size ≤ gb143)); have n3_ := aS ((by rw [hg]; exact (q0k (by repeat (first | (with_reducible first | exact HB.out | apply bA | apply bN | apply bD) | exact HB.out))) : w.heap.size ≤ gb143)); clear HB; have HB := n0_; have BK143 := n1_; have GW143 := n2_; have GE143 := n3_; clear n0_ n1_ n2_ n3_; clear hb hbox hg; have hcz4_0 : w3.cell? ⟨gb143, 0, none⟩ = some (.slice A0_0 l0_0.length c0_0) := (q02 BK143.out 0).trans rfl; have hcz4_1 : w3.cell? ⟨gb143, 1, none⟩ = some (.bool a0_1) := (q02 BK143.out 1).trans rfl; have hfz4_0 := q01 BK143.out 0; have hfz4_1 := q01 BK143.out 1))
  go_ret
  exact ⟨by first | rfl | (simp [q0b, q0a] <;> rfl) | (simp [*, q0b, q0a] <;> rfl), by repeat (first | (with_reducible first | exact HB.out | apply bA | apply bN | apply bD | refine bS ?_ GE143.out) | exact HB.out)⟩
 ·rw [if_neg c2] at H
  have c2b0 : decide (200 < (l0_0.length : Int)) = false := decide_eq_false c2
  have c2b1 : decide (200 < l0_0.length) = false := decide_eq_false (by omega)
  clear c2
  by_cases c5 : (l0_0.length : Int) = 0
  ·rw [if_pos c5] at H
   have c5b0 : ((l0_0.length : Int) == 0) = true := beq_iff_eq.mpr c5
   have c5b1 : ((l0_0.length : Int) != 0) = false := bne_eq_false_iff_eq.mpr c5
   clear c5
   obtain rfl := Option.some.inj H
   go_enter Tryd.func52, Tryd.ntmps52
   go_wp2_with (first | ((with_reducible refine q15 (N := 1) rfl ?_); refine q0y ?hg (N := 1) ?hd (cs := #[.slice A0_0 l0_0.length c0_0, .bool a0_1]) (t := 24) ?hr ?_; (case hd => rfl); (case hg => rfl); (case hr => first | (go_simp; done) | (go_simp; rfl)); intro gb143 hg w6 hbox hb; have n0_ := aS (q09 (by repeat (first | (with_reducible first | exact HB.out | apply bA | apply bN | apply bD) | exact HB.out)) hb); have n1_ := aS (hbox); have n2_ := aS ((by rw [hg]; exact (q0k (by repeat (first | (with_reducible first | exact HB.out | apply bA | apply bN | apply bD) | exact HB.out))) : w.heap.size ≤ gb143)); have n3_ := aS ((by rw [hg]; exact (q0k (by repeat (first | (with_reducible first | exact HB.out | apply bA | apply bN | apply bD) | exact HB.out))) : w.heap.size ≤ gb143)); clear HB; have HB := n0_; have BK143 := n1_; have GW143 := n2_; have GE143 := n3_; clear n0_ n1_ n2_ n3_; clear hb hbox hg; have hcz7_0 : w6.cell? ⟨gb143, 0, none⟩ = some (.slice A0_0 l0_0.length c0_0) := (q02 BK143.out 0).trans rfl; have hcz7_1 : w6.cell? ⟨gb143, 1, none⟩ = some (.bool a0_1) := (q02 BK143.out 1).trans rfl; have hfz7_0 := q01 BK143.out 0; have hfz7_1 := q01 BK143.out 1))
   go_ret
   exact ⟨by first | rfl | (simp [q0b, q0a] <;> rfl) | (simp [*, q0b, q0a] <;> rfl), by repeat (first | (with_reducible first | exact HB.out | apply bA | apply bN | apply bD | refine bS ?_ GE143.out) | exact HB.out)⟩
  ·rw [if_neg c5] at H
   have c5b0 : ((l0_0.length : Int) == 0) = false := beq_eq_false_iff_ne.mpr c5
   have c5b1 : ((l0_0.length : Int) != 0) = true := bne_iff_ne.mpr c5
   have c5b2 : ¬ (l0_0 = []) := fun h_ => c5 (by rw [h_]; rfl)
   have H' := aS H
   clear H
   go_enter Tryd.func52, Tryd.ntmps52
   go_wp2_with (first | ((with_reducible refine q15 (N := 1) rfl ?_); refine q0y ?hg (N := 1) ?hd (cs := #[.slice A0_0 l0_0.length c0_0, .bool a0_1]) (t := 24) ?hr ?_; (case hd => rfl); (case hg => rfl); (case hr => first | (go_simp; done) | (go_simp; rfl)); intro gb143 hg w8 hbox hb; have n0_ := aS (q09 (by repeat (first | (with_reducible first | exact HB.out | apply bA | apply bN | apply bD) | exact HB.out)) hb); have n1_ := aS (hbox); have n2_ := aS ((by rw [hg]; exact (q0k (by repeat (first | (with_reducible first | exact HB.out | apply bA | apply bN | apply bD) | exact HB.out))) : w.heap.size ≤ gb143)); have n3_ := aS ((by rw [hg]; exact (q0k (by repeat (first | (with_reducible first | exact HB.out | apply bA | apply bN | apply bD) | exact HB.out))) : w.heap.size ≤ gb143)); clear HB; have HB := n0_; have BK143 := n1_; have GW143 := n2_; have GE143 := n3_; clear n0_ n1_ n2_ n3_; clear hb hbox hg; have hcz9_0 : w8.cell? ⟨gb143, 0, none⟩ = some (.slice A0_0 l0_0.length c0_0) := (q02 BK143.out 0).trans rfl; have hcz9_1 : w8.cell? ⟨gb143, 1, none⟩ = some (.bool a0_1) := (q02 BK143.out 1).trans rfl; have hfz9_0 := q01 BK143.out 0; have hfz9_1 := q01 BK143.out 1))
   go_loopg [22] k (fun kq v22 w' => ∃ (x22_1 : Int), v22 = .int .i64 x22_1 ∧ Aside0 (q1a.l0 kq l0_0 (l0_0.length : Int) x22_1 l0_0 a0_1 = some r) ∧ Aside0 (kq ≤ k) ∧ Aside0 (w'.heap[gb143]? = some (.cells #[(.slice A0_0 l0_0.length c0_0), .bool a0_1] 24 (0, 0))) ∧ Aside0 (Below w.heap.size w w'))
   case atStart => exact ⟨(0), (by first | rfl | (simp; done) | simp [*]), H', ⟨Nat.le_refl _⟩, ⟨by (with_reducible repeat (first | refine kN ?_ _ | refine kD ?_ | refine kA ?_ _)); exact BK143.out⟩, ⟨by repeat (first | (with_reducible first | exact HB.out | apply bA | apply bN | apply bD | refine bS ?_ GE143.out) | exact HB.out)⟩⟩
   case round =>
    clear H'
    try clear c2
    try clear c2b0
    try clear c2b1
    try clear p2
    try clear c5
    try clear c5b0
    try clear c5b1
    try clear c5b2
    try clear hcz4_0
    try clear hcz4_1
    try clear hcz7_0
    try clear hcz7_1
    try clear hcz9_0
    try clear hcz9_1
    try clear hfz4_0
    try clear hfz4_1
    try clear hfz7_0
    try clear hfz7_1
    try clear hfz9_0
    try clear hfz9_1
    obtain ⟨x22_1, rfl, HA, HK1, BK143, HB⟩ := hrel
    cases gk with
    | zero => exact absurd HA.out (by simp [q1a.l0])
    | succ k1 =>
     have H := HA.out
     clear HA
     simp only [q1a.l0] at H
     by_cases c10 : x22_1 < (l0_0.length : Int)
     ·rw [if_pos c10] at H
      have c10b0 : decide (x22_1 < (l0_0.length : Int)) = true := decide_eq_true c10
      clear c10
      by_cases c11 : 0 ≤ x22_1
      ·rw [if_pos c11] at H
       have c11b0 : decide (0 ≤ x22_1) = true := decide_eq_true c11
       clear c11
       by_cases c12 : x22_1 < (l0_0.length : Int)
       ·rw [if_pos c12] at H
        have c12b0 : decide (x22_1 < (l0_0.length : Int)) = true := decide_eq_true c12
        clear c12
        by_cases c13 : ((((q05 l0_0 x22_1).f0) == 1) != (x22_1 == 0)) = true
        ·rw [if_pos c13] at H
         have c13b0 : ((((q05 l0_0 x22_1).f0) == 1) != (x22_1 == 0)) = true := c13
         (try (have c13b1 : decide ((((q05 l0_0 x22_1).f0) == 1) = (x22_1 == 0)) = false := by simpa using c13))
         (try (have c13b2 : ((((q05 l0_0 x22_1).f0) == 1) == (x22_1 == 0)) = false := by simpa using c13))
         (try (have c13b3 : ¬ ((((q05 l0_0 x22_1).f0) == 1) = (x22_1 == 0)) := by simpa using c13))
         clear c13
         obtain rfl := Option.some.inj H
         have p144 : 0 ≤ (x22_1 : Int) := od (by first | (with_reducible assumption) | assumption)
         have q144 : x22_1 < (l0_0.length : Int) := od (by first | (with_reducible assumption) | assumption)
         obtain ⟨ad144, A144_2, c144_2, A144_5, c144_5, e144, hx144_0, hx144_1, hx144_2, hx144_3, hx144_4, hx144_5, hl144_2, hi144_2, hl144_5, hi144_5⟩ := q1j HR0_0.out x22_1 p144 q144
         cases e144
         replace hx144_0 := (HB.out.cell (World.block_lt_of_cell? w _ hx144_0)).trans hx144_0
         replace hx144_1 := (HB.out.cell (World.block_lt_of_cell? w _ hx144_1)).trans hx144_1
         replace hx144_2 := (HB.out.cell (World.block_lt_of_cell? w _ hx144_2)).trans hx144_2
         replace hx144_3 := (HB.out.cell (World.block_lt_of_cell? w _ hx144_3)).trans hx144_3
         replace hx144_4 := (HB.out.cell (World.block_lt_of_cell? w _ hx144_4)).trans hx144_4
         replace hx144_5 := (HB.out.cell (World.block_lt_of_cell? w _ hx144_5)).trans hx144_5
         have HR144_2 := aS hi144_2
         have HC144_2 := aS hl144_2
         clear hi144_2 hl144_2
         have HR144_5 := aS hi144_5
         have HC144_5 := aS hl144_5
         clear hi144_5 hl144_5
         replace p144 := eq_true p144
         replace q144 := eq_true q144
         go_wp2_with (first | ((with_reducible refine q15 (N := 4) rfl ?_); refine q0y ?hg (N := 4) ?hd (cs := #[.int .i64 0, .string (⟨#[]⟩ : ByteArray), .slice none 0 0, .string (⟨#[]⟩ : ByteArray), .int .i64 0, .slice none 0 0]) (t := 43) ?hr ?_; (case hd => rfl); (case hg => rfl); (case hr => first | (go_simp; done) | (go_simp; rfl)); intro gb145 hg w14 hbox hb; have n0_ := aS (q16 (g := gb143) (o := .cells #[.slice (some ad144) l0_0.length c0_0, .bool a0_1] 24 (0, 0)) (by (with_reducible repeat (first | refine kN ?_ _ | refine kD ?_ | refine kA ?_ _)); exact BK143.out) hb); have n1_ := aS (q09 (by repeat (first | (with_reducible first | exact HB.out | apply bA | apply bN | apply bD | refine bS ?_ GE143.out) | exact HB.out)) hb); have n2_ := aS (hbox); have n3_ := aS ((by rw [hg]; exact (q0k (by repeat (first | (with_reducible first | exact HB.out | apply bA | apply bN | apply bD | refine bS ?_ GE143.out) | exact HB.out))) : w.heap.size ≤ gb145)); have n4_ := aS ((by rw [hg]; exact (q0k (by repeat (first | (with_reducible first | exact HB.out | apply bA | apply bN | apply bD | refine bS ?_ GE143.out) | exact HB.out))) : w.heap.size ≤ gb145)); have n5_ := aS ((by rw [hg]; exact Nat.ne_of_lt (q2i (g := gb143) (o := .cells #[.slice (some ad144) l0_0.length c0_0, .bool a0_1] 24 (0, 0)) (by (with_reducible repeat (first | refine kN ?_ _ | refine kD ?_ | refine kA ?_ _)); exact BK143.out)) : gb143 ≠ gb145)); have n6_ := aS ((by rw [hg]; exact Nat.ne_of_gt (q2i (g := gb143) (o := .cells #[.slice (some ad144) l0_0.length c0_0, .bool a0_1] 24 (0, 0)) (by (with_reducible repeat (first | refine kN ?_ _ | refine kD ?_ | refine kA ?_ _)); exact BK143.out)) : gb145 ≠ gb143)); clear BK143; clear HB; have BK143 := n0_; have HB := n1_; have BK145 := n2_; have GW145 := n3_; have GE145 := n4_; have NB143_145 := n5_; have NB145_143 := n6_; clear n0_ n1_ n2_ n3_ n4_ n5_ n6_; clear hb hbox hg; have hnb15 := NB145_143.out; have hnc15 := NB143_145.out; have hcz16_0 : w14.cell? ⟨gb145, 0, none⟩ = some (.int .i64 0) := (q02 BK145.out 0).trans rfl; have hcz16_1 : w14.cell? ⟨gb145, 1, none⟩ = some (.string (⟨#[]⟩ : ByteArray)) := (q02 BK145.out 1).trans rfl; have hcz16_2 : w14.cell? ⟨gb145, 2, none⟩ = some (.slice none 0 0) := (q02 BK145.out 2).trans rfl; have hcz16_3 : w14.cell? ⟨gb145, 3, none⟩ = some (.string (⟨#[]⟩ : ByteArray)) := (q02 BK145.out 3).trans rfl; have hcz16_4 : w14.cell? ⟨gb145, 4, none⟩ = some (.int .i64 0) := (q02 BK145.out 4).trans rfl; have hcz16_5 : w14.cell? ⟨gb145, 5, none⟩ = some (.slice none 0 0) := (q02 BK145.out 5).trans rfl; have hfz16_0 := q01 BK145.out 0; have hfz16_1 := q01 BK145.out 1; have hfz16_2 := q01 BK145.out 2; have hfz16_3 := q01 BK145.out 3; have hfz16_4 := q01 BK145.out 4; have hfz16_5 := q01 BK145.out 5))
         go_ret
         exact ⟨by first | rfl | (simp [q0b, q0a] <;> rfl) | (simp [*, q0b, q0a] <;> rfl), by repeat (first | (with_reducible first | exact HB.out | apply bA | apply bN | apply bD | refine bS ?_ GE143.out | refine bS ?_ GE145.out) | exact HB.out)⟩
        ·rw [if_neg c13] at H
         have c13b0 : ((((q05 l0_0 x22_1).f0) == 1) != (x22_1 == 0)) = false := by simpa using c13
         (try (have c13b1 : decide ((((q05 l0_0 x22_1).f0) == 1) = (x22_1 == 0)) = true := by simpa using c13))
         (try (have c13b2 : ((((q05 l0_0 x22_1).f0) == 1) == (x22_1 == 0)) = true := by simpa using c13))
         clear c13
         replace H := Option.bind_eq_some_iff.mp H
         obtain ⟨t146, A170, H⟩ := H
         replace H : (if t146 = 0 then (q1a.l0 k1 l0_0 (l0_0.length : Int) (wrap64 (x22_1 + 1)) l0_0 a0_1) else (some t146)) = some r := H
         have A17 := aS A170
         clear A170
         by_cases c18 : t146 = 0
         ·rw [if_pos c18] at H
          have c18b0 : (t146 == 0) = true := beq_iff_eq.mpr c18
          have c18b1 : (t146 != 0) = false := bne_eq_false_iff_eq.mpr c18
          clear c18
          have H' := aS H
          clear H
          have p144 : 0 ≤ (x22_1 : Int) := od (by first | (with_reducible assumption) | assumption)
          have q144 : x22_1 < (l0_0.length : Int) := od (by first | (with_reducible assumption) | assumption)
          obtain ⟨ad144, A144_2, c144_2, A144_5, c144_5, e144, hx144_0, hx144_1, hx144_2, hx144_3, hx144_4, hx144_5, hl144_2, hi144_2, hl144_5, hi144_5⟩ := q1j HR0_0.out x22_1 p144 q144
          cases e144
          replace hx144_0 := (HB.out.cell (World.block_lt_of_cell? w _ hx144_0)).trans hx144_0
          replace hx144_1 := (HB.out.cell (World.block_lt_of_cell? w _ hx144_1)).trans hx144_1
          replace hx144_2 := (HB.out.cell (World.block_lt_of_cell? w _ hx144_2)).trans hx144_2
          replace hx144_3 := (HB.out.cell (World.block_lt_of_cell? w _ hx144_3)).trans hx144_3
          replace hx144_4 := (HB.out.cell (World.block_lt_of_cell? w _ hx144_4)).trans hx144_4
          replace hx144_5 := (HB.out.cell (World.block_lt_of_cell? w _ hx144_5)).trans hx144_5
          have HR144_2 := aS hi144_2
          have HC144_2 := aS hl144_2
          clear hi144_2 hl144_2
          have HR144_5 := aS hi144_5
          have HC144_5 := aS hl144_5
          clear hi144_5 hl144_5
          replace p144 := eq_true p144
          replace q144 := eq_true q144
          go_wp2_with (first | ((with_reducible refine q15 (N := 4) rfl ?_); refine q0y ?hg (N := 4) ?hd (cs := #[.int .i64 0, .string (⟨#[]⟩ : ByteArray), .slice none 0 0, .string (⟨#[]⟩ : ByteArray), .int .i64 0, .slice none 0 0]) (t := 43) ?hr ?_; (case hd => rfl); (case hg => rfl); (case hr => first | (go_simp; done) | (go_simp; rfl)); intro gb145 hg w19 hbox hb; have n0_ := aS (q16 (g := gb143) (o := .cells #[.slice (some ad144) l0_0.length c0_0, .bool a0_1] 24 (0, 0)) (by (with_reducible repeat (first | refine kN ?_ _ | refine kD ?_ | refine kA ?_ _)); exact BK143.out) hb); have n1_ := aS (q09 (by repeat (first | (with_reducible first | exact HB.out | apply bA | apply bN | apply bD | refine bS ?_ GE143.out) | exact HB.out)) hb); have n2_ := aS (hbox); have n3_ := aS ((by rw [hg]; exact (q0k (by repeat (first | (with_reducible first | exact HB.out | apply bA | apply bN | apply bD | refine bS ?_ GE143.out) | exact HB.out))) : w.heap.size ≤ gb145)); have n4_ := aS ((by rw [hg]; exact (q0k (by repeat (first | (with_reducible first | exact HB.out | apply bA | apply bN | apply bD | refine bS ?_ GE143.out) | exact HB.out))) : w.heap.size ≤ gb145)); have n5_ := aS ((by rw [hg]; exact Nat.ne_of_lt (q2i (g := gb143) (o := .cells #[.slice (some ad144) l0_0.length c0_0, .bool a0_1] 24 (0, 0)) (by (with_reducible repeat (first | refine kN ?_ _ | refine kD ?_ | refine kA ?_ _)); exact BK143.out)) : gb143 ≠ gb145)); have n6_ := aS ((by rw [hg]; exact Nat.ne_of_gt (q2i (g := gb143) (o := .cells #[.slice (some ad144) l0_0.length c0_0, .bool a0_1] 24 (0, 0)) (by (with_reducible repeat (first | refine kN ?_ _ | refine kD ?_ | refine kA ?_ _)); exact BK143.out)) : gb145 ≠ gb143)); clear BK143; clear HB; have BK143 := n0_; have HB := n1_; have BK145 := n2_; have GW145 := n3_; have GE145 := n4_; have NB143_145 := n5_; have NB145_143 := n6_; clear n0_ n1_ n2_ n3_ n4_ n5_ n6_; clear hb hbox hg; have hnb20 := NB145_143.out; have hnc20 := NB143_145.out; have hcz21_0 : w19.cell? ⟨gb145, 0, none⟩ = some (.int .i64 0) := (q02 BK145.out 0).trans rfl; have hcz21_1 : w19.cell? ⟨gb145, 1, none⟩ = some (.string (⟨#[]⟩ : ByteArray)) := (q02 BK145.out 1).trans rfl; have hcz21_2 : w19.cell? ⟨gb145, 2, none⟩ = some (.slice none 0 0) := (q02 BK145.out 2).trans rfl; have hcz21_3 : w19.cell? ⟨gb145, 3, none⟩ = some (.string (⟨#[]⟩ : ByteArray)) := (q02 BK145.out 3).trans rfl; have hcz21_4 : w19.cell? ⟨gb145, 4, none⟩ = some (.int .i64 0) := (q02 BK145.out 4).trans rfl; have hcz21_5 : w19.cell? ⟨gb145, 5, none⟩ = some (.slice none 0 0) := (q02 BK145.out 5).trans rfl; have hfz21_0 := q01 BK145.out 0; have hfz21_1 := q01 BK145.out 1; have hfz21_2 := q01 BK145.out 2; have hfz21_3 := q01 BK145.out 3; have hfz21_4 := q01 BK145.out 4; have hfz21_5 := q01 BK145.out 5) | ((with_reducible refine q0l (f := 100) rfl ?_); refine q1d (some 34) rfl rfl Tryd.func100 (by kernel_rfl) rfl #[.agg #[.int .i64 ((q05 l0_0 x22_1).f0), .string ((q05 l0_0 x22_1).f1), .slice A144_2 ((q05 l0_0 x22_1).f2).length c144_2, .string ((q05 l0_0 x22_1).f3), .int .i64 ((q05 l0_0 x22_1).f4), .slice A144_5 ((q05 l0_0 x22_1).f5).length c144_5]] rfl (by (try simp only [List.map_toArray, List.map_cons, List.map_nil]); first | done | rfl | (simp only [List.length_drop, List.length_take]; rfl)) ?_; (with_reducible refine (q1h.calls k1 ((q05 l0_0 x22_1).f0) ((q05 l0_0 x22_1).f1) _ _ ((q05 l0_0 x22_1).f2) ((q05 l0_0 x22_1).f3) ((q05 l0_0 x22_1).f4) _ _ ((q05 l0_0 x22_1).f5) t146 _ ?side1 ?side2 ?side3 ?side4 A17.out).mono ?_); (case side1 => exact Kd.C_below HR144_2.out (by repeat (first | (with_reducible first | exact HB.out | apply bA | apply bN | apply bD | refine bS ?_ GE143.out | refine bS ?_ GE145.out) | exact HB.out))); (case side2 => exact HC144_2.out); (case side3 => exact Kd.C_below HR144_5.out (by repeat (first | (with_reducible first | exact HB.out | apply bA | apply bN | apply bD | refine bS ?_ GE143.out | refine bS ?_ GE145.out) | exact HB.out))); (case side4 => exact HC144_5.out); rintro e w22 ⟨rfl, hb⟩; refine ⟨_, rfl, ?_⟩; have n0_ := aS (q16 (g := gb143) (o := .cells #[.slice (some ad144) l0_0.length c0_0, .bool a0_1] 24 (0, 0)) (by (with_reducible repeat (first | refine kN ?_ _ | refine kD ?_ | refine kA ?_ _)); refine q1q ?_ NB143_145.out _; (with_reducible repeat (first | refine kN ?_ _ | refine kD ?_ | refine kA ?_ _)); refine q1q ?_ NB143_145.out _; (with_reducible repeat (first | refine kN ?_ _ | refine kD ?_ | refine kA ?_ _)); refine q1q ?_ NB143_145.out _; (with_reducible repeat (first | refine kN ?_ _ | refine kD ?_ | refine kA ?_ _)); refine q1q ?_ NB143_145.out _; (with_reducible repeat (first | refine kN ?_ _ | refine kD ?_ | refine kA ?_ _)); refine q1q ?_ NB143_145.out _; (with_reducible repeat (first | refine kN ?_ _ | refine kD ?_ | refine kA ?_ _)); refine q1q ?_ NB143_145.out _; (with_reducible repeat (first | refine kN ?_ _ | refine kD ?_ | refine kA ?_ _)); exact BK143.out) hb); have n1_ := aS (q16 (g := gb145) (o := .cells #[.int .i64 ((q05 l0_0 x22_1).f0), .string ((q05 l0_0 x22_1).f1), .slice A144_2 ((q05 l0_0 x22_1).f2).length c144_2, .string ((q05 l0_0 x22_1).f3), .int .i64 ((q05 l0_0 x22_1).f4), .slice A144_5 ((q05 l0_0 x22_1).f5).length c144_5] 43 (0, 0)) (by (with_reducible repeat (first | refine kN ?_ _ | refine kD ?_ | refine kA ?_ _)); refine q1p (cs := #[.int .i64 ((q05 l0_0 x22_1).f0), .string ((q05 l0_0 x22_1).f1), .slice A144_2 ((q05 l0_0 x22_1).f2).length c144_2, .string ((q05 l0_0 x22_1).f3), .int .i64 ((q05 l0_0 x22_1).f4), .slice none 0 0]) ?_ 5 _ rfl; (with_reducible repeat (first | refine kN ?_ _ | refine kD ?_ | refine kA ?_ _)); refine q1p (cs := #[.int .i64 ((q05 l0_0 x22_1).f0), .string ((q05 l0_0 x22_1).f1), .slice A144_2 ((q05 l0_0 x22_1).f2).length c144_2, .string ((q05 l0_0 x22_1).f3), .int .i64 0, .slice none 0 0]) ?_ 4 _ rfl; (with_reducible repeat (first | refine kN ?_ _ | refine kD ?_ | refine kA ?_ _)); refine q1p (cs := #[.int .i64 ((q05 l0_0 x22_1).f0), .string ((q05 l0_0 x22_1).f1), .slice A144_2 ((q05 l0_0 x22_1).f2).length c144_2, .string (⟨#[]⟩ : ByteArray), .int .i64 0, .slice none 0 0]) ?_ 3 _ rfl; (with_reducible repeat (first | refine kN ?_ _ | refine kD ?_ | refine kA ?_ _)); refine q1p (cs := #[.int .i64 ((q05 l0_0 x22_1).f0), .string ((q05 l0_0 x22_1).f1), .slice none 0 0, .string (⟨#[]⟩ : ByteArray), .int .i64 0, .slice none 0 0]) ?_ 2 _ rfl; (with_reducible repeat (first | refine kN ?_ _ | refine kD ?_ | refine kA ?_ _)); refine q1p (cs := #[.int .i64 ((q05 l0_0 x22_1).f0), .string (⟨#[]⟩ : ByteArray), .slice none 0 0, .string (⟨#[]⟩ : ByteArray), .int .i64 0, .slice none 0 0]) ?_ 1 _ rfl; (with_reducible repeat (first | refine kN ?_ _ | refine kD ?_ | refine kA ?_ _)); refine q1p (cs := #[.int .i64 0, .string (⟨#[]⟩ : ByteArray), .slice none 0 0, .string (⟨#[]⟩ : ByteArray), .int .i64 0, .slice none 0 0]) ?_ 0 _ rfl; (with_reducible repeat (first | refine kN ?_ _ | refine kD ?_ | refine kA ?_ _)); exact BK145.out) hb); have n2_ := aS (q09 (by repeat (first | (with_reducible first | exact HB.out | apply bA | apply bN | apply bD | refine bS ?_ GE143.out | refine bS ?_ GE145.out) | exact HB.out)) hb); clear BK143; clear BK145; clear HB; have BK143 := n0_; have BK145 := n1_; have HB := n2_; clear n0_ n1_ n2_; (try clear hb); (try clear hb2); (try clear hk); (try clear hi)))
          go_roundg k1
          case measure => have := HK1.out; omega
          case rel => exact ⟨(wrap64 (x22_1 + 1)), (by first | rfl | (simp; done) | simp [*]), H', ⟨by have := HK1.out; omega⟩, ⟨by (with_reducible repeat (first | refine kN ?_ _ | refine kD ?_ | refine kA ?_ _)); exact BK143.out⟩, ⟨by repeat (first | (with_reducible first | exact HB.out | apply bA | apply bN | apply bD | refine bS ?_ GE143.out | refine bS ?_ GE145.out) | exact HB.out)⟩⟩
         ·rw [if_neg c18] at H
          have c18b0 : (t146 == 0) = false := beq_eq_false_iff_ne.mpr c18
          have c18b1 : (t146 != 0) = true := bne_iff_ne.mpr c18
          obtain rfl := Option.some.inj H
          have p144 : 0 ≤ (x22_1 : Int) := od (by first | (with_reducible assumption) | assumption)
          have q144 : x22_1 < (l0_0.length : Int) := od (by first | (with_reducible assumption) | assumption)
          obtain ⟨ad144, A144_2, c144_2, A144_5, c144_5, e144, hx144_0, hx144_1, hx144_2, hx144_3, hx144_4, hx144_5, hl144_2, hi144_2, hl144_5, hi144_5⟩ := q1j HR0_0.out x22_1 p144 q144
          cases e144
          replace hx144_0 := (HB.out.cell (World.block_lt_of_cell? w _ hx144_0)).trans hx144_0
          replace hx144_1 := (HB.out.cell (World.block_lt_of_cell? w _ hx144_1)).trans hx144_1
          replace hx144_2 := (HB.out.cell (World.block_lt_of_cell? w _ hx144_2)).trans hx144_2
          replace hx144_3 := (HB.out.cell (World.block_lt_of_cell? w _ hx144_3)).trans hx144_3
          replace hx144_4 := (HB.out.cell (World.block_lt_of_cell? w _ hx144_4)).trans hx144_4
          replace hx144_5 := (HB.out.cell (World.block_lt_of_cell? w _ hx144_5)).trans hx144_5
          have HR144_2 := aS hi144_2
          have HC144_2 := aS hl144_2
          clear hi144_2 hl144_2
          have HR144_5 := aS hi144_5
          have HC144_5 := aS hl144_5
          clear hi144_5 hl144_5
          replace p144 := eq_true p144
          replace q144 := eq_true q144
          go_wp2_with (first | ((with_reducible refine q15 (N := 4) rfl ?_); refine q0y ?hg (N := 4) ?hd (cs := #[.int .i64 0, .string (⟨#[]⟩ : ByteArray), .slice none 0 0, .string (⟨#[]⟩ : ByteArray), .int .i64 0, .slice none 0 0]) (t := 43) ?hr ?_; (case hd => rfl); (case hg => rfl); (case hr => first | (go_simp; done) | (go_simp; rfl)); intro gb145 hg w23 hbox hb; have n0_ := aS (q16 (g := gb143) (o := .cells #[.slice (some ad144) l0_0.length c0_0, .bool a0_1] 24 (0, 0)) (by (with_reducible repeat (first | refine kN ?_ _ | refine kD ?_ | refine kA ?_ _)); exact BK143.out) hb); have n1_ := aS (q09 (by repeat (first | (with_reducible first | exact HB.out | apply bA | apply bN | apply bD | refine bS ?_ GE143.out) | exact HB.out)) hb); have n2_ := aS (hbox); have n3_ := aS ((by rw [hg]; exact (q0k (by repeat (first | (with_reducible first | exact HB.out | apply bA | apply bN | apply bD | refine bS ?_ GE143.out) | exact HB.out))) : w.heap.size ≤ gb145)); have n4_ := aS ((by rw [hg]; exact (q0k (by repeat (first | (with_reducible first | exact HB.out | apply bA | apply bN | apply bD | refine bS ?_ GE143.out) | exact HB.out))) : w.heap.size ≤ gb145)); have n5_ := aS ((by rw [hg]; exact Nat.ne_of_lt (q2i (g := gb143) (o := .cells #[.slice (some ad144) l0_0.length c0_0, .bool a0_1] 24 (0, 0)) (by (with_reducible repeat (first | refine kN ?_ _ | refine kD ?_ | refine kA ?_ _)); exact BK143.out)) : gb143 ≠ gb145)); have n6_ := aS ((by rw [hg]; exact Nat.ne_of_gt (q2i (g := gb143) (o := .cells #[.slice (some ad144) l0_0.length c0_0, .bool a0_1] 24 (0, 0)) (by (with_reducible repeat (first | refine kN ?_ _ | refine kD ?_ | refine kA ?_ _)); exact BK143.out)) : gb145 ≠ gb143)); clear BK143; clear HB; have BK143 := n0_; have HB := n1_; have BK145 := n2_; have GW145 := n3_; have GE145 := n4_; have NB143_145 := n5_; have NB145_143 := n6_; clear n0_ n1_ n2_ n3_ n4_ n5_ n6_; clear hb hbox hg; have hnb24 := NB145_143.out; have hnc24 := NB143_145.out; have hcz25_0 : w23.cell? ⟨gb145, 0, none⟩ = some (.int .i64 0) := (q02 BK145.out 0).trans rfl; have hcz25_1 : w23.cell? ⟨gb145, 1, none⟩ = some (.string (⟨#[]⟩ : ByteArray)) := (q02 BK145.out 1).trans rfl; have hcz25_2 : w23.cell? ⟨gb145, 2, none⟩ = some (.slice none 0 0) := (q02 BK145.out 2).trans rfl; have hcz25_3 : w23.cell? ⟨gb145, 3, none⟩ = some (.string (⟨#[]⟩ : ByteArray)) := (q02 BK145.out 3).trans rfl; have hcz25_4 : w23.cell? ⟨gb145, 4, none⟩ = some (.int .i64 0) := (q02 BK145.out 4).trans rfl; have hcz25_5 : w23.cell? ⟨gb145, 5, none⟩ = some (.slice none 0 0) := (q02 BK145.out 5).trans rfl; have hfz25_0 := q01 BK145.out 0; have hfz25_1 := q01 BK145.out 1; have hfz25_2 := q01 BK145.out 2; have hfz25_3 := q01 BK145.out 3; have hfz25_4 := q01 BK145.out 4; have hfz25_5 := q01 BK145.out 5) | ((with_reducible refine q0l (f := 100) rfl ?_); refine q1d (some 34) rfl rfl Tryd.func100 (by kernel_rfl) rfl #[.agg #[.int .i64 ((q05 l0_0 x22_1).f0), .string ((q05 l0_0 x22_1).f1), .slice A144_2 ((q05 l0_0 x22_1).f2).length c144_2, .string ((q05 l0_0 x22_1).f3), .int .i64 ((q05 l0_0 x22_1).f4), .slice A144_5 ((q05 l0_0 x22_1).f5).length c144_5]] rfl (by (try simp only [List.map_toArray, List.map_cons, List.map_nil]); first | done | rfl | (simp only [List.length_drop, List.length_take]; rfl)) ?_; (with_reducible refine (q1h.calls k1 ((q05 l0_0 x22_1).f0) ((q05 l0_0 x22_1).f1) _ _ ((q05 l0_0 x22_1).f2) ((q05 l0_0 x22_1).f3) ((q05 l0_0 x22_1).f4) _ _ ((q05 l0_0 x22_1).f5) t146 _ ?side1 ?side2 ?side3 ?side4 A17.out).mono ?_); (case side1 => exact Kd.C_below HR144_2.out (by repeat (first | (with_reducible first | exact HB.out | apply bA | apply bN | apply bD | refine bS ?_ GE143.out | refine bS ?_ GE145.out) | exact HB.out))); (case side2 => exact HC144_2.out); (case side3 => exact Kd.C_below HR144_5.out (by repeat (first | (with_reducible first | exact HB.out | apply bA | apply bN | apply bD | refine bS ?_ GE143.out | refine bS ?_ GE145.out) | exact HB.out))); (case side4 => exact HC144_5.out); rintro e w26 ⟨rfl, hb⟩; refine ⟨_, rfl, ?_⟩; have n0_ := aS (q16 (g := gb143) (o := .cells #[.slice (some ad144) l0_0.length c0_0, .bool a0_1] 24 (0, 0)) (by (with_reducible repeat (first | refine kN ?_ _ | refine kD ?_ | refine kA ?_ _)); refine q1q ?_ NB143_145.out _; (with_reducible repeat (first | refine kN ?_ _ | refine kD ?_ | refine kA ?_ _)); refine q1q ?_ NB143_145.out _; (with_reducible repeat (first | refine kN ?_ _ | refine kD ?_ | refine kA ?_ _)); refine q1q ?_ NB143_145.out _; (with_reducible repeat (first | refine kN ?_ _ | refine kD ?_ | refine kA ?_ _)); refine q1q ?_ NB143_145.out _; (with_reducible repeat (first | refine kN ?_ _ | refine kD ?_ | refine kA ?_ _)); refine q1q ?_ NB143_145.out _; (with_reducible repeat (first | refine kN ?_ _ | refine kD ?_ | refine kA ?_ _)); refine q1q ?_ NB143_145.out _; (with_reducible repeat (first | refine kN ?_ _ | refine kD ?_ | refine kA ?_ _)); exact BK143.out) hb); have n1_ := aS (q16 (g := gb145) (o := .cells #[.int .i64 ((q05 l0_0 x22_1).f0), .string ((q05 l0_0 x22_1).f1), .slice A144_2 ((q05 l0_0 x22_1).f2).length c144_2, .string ((q05 l0_0 x22_1).f3), .int .i64 ((q05 l0_0 x22_1).f4), .slice A144_5 ((q05 l0_0 x22_1).f5).length c144_5] 43 (0, 0)) (by (with_reducible repeat (first | refine kN ?_ _ | refine kD ?_ | refine kA ?_ _)); refine q1p (cs := #[.int .i64 ((q05 l0_0 x22_1).f0), .string ((q05 l0_0 x22_1).f1), .slice A144_2 ((q05 l0_0 x22_1).f2).length c144_2, .string ((q05 l0_0 x22_1).f3), .int .i64 ((q05 l0_0 x22_1).f4), .slice none 0 0]) ?_ 5 _ rfl; (with_reducible repeat (first | refine kN ?_ _ | refine kD ?_ | refine kA ?_ _)); refine q1p (cs := #[.int .i64 ((q05 l0_0 x22_1).f0), .string ((q05 l0_0 x22_1).f1), .slice A144_2 ((q05 l0_0 x22_1).f2).length c144_2, .string ((q05 l0_0 x22_1).f3), .int .i64 0, .slice none 0 0]) ?_ 4 _ rfl; (with_reducible repeat (first | refine kN ?_ _ | refine kD ?_ | refine kA ?_ _)); refine q1p (cs := #[.int .i64 ((q05 l0_0 x22_1).f0), .string ((q05 l0_0 x22_1).f1), .slice A144_2 ((q05 l0_0 x22_1).f2).length c144_2, .string (⟨#[]⟩ : ByteArray), .int .i64 0, .slice none 0 0]) ?_ 3 _ rfl; (with_reducible repeat (first | refine kN ?_ _ | refine kD ?_ | refine kA ?_ _)); refine q1p (cs := #[.int .i64 ((q05 l0_0 x22_1).f0), .string ((q05 l0_0 x22_1).f1), .slice none 0 0, .string (⟨#[]⟩ : ByteArray), .int .i64 0, .slice none 0 0]) ?_ 2 _ rfl; (with_reducible repeat (first | refine kN ?_ _ | refine kD ?_ | refine kA ?_ _)); refine q1p (cs := #[.int .i64 ((q05 l0_0 x22_1).f0), .string (⟨#[]⟩ : ByteArray), .slice none 0 0, .string (⟨#[]⟩ : ByteArray), .int .i64 0, .slice none 0 0]) ?_ 1 _ rfl; (with_reducible repeat (first | refine kN ?_ _ | refine kD ?_ | refine kA ?_ _)); refine q1p (cs := #[.int .i64 0, .string (⟨#[]⟩ : ByteArray), .slice none 0 0, .string (⟨#[]⟩ : ByteArray), .int .i64 0, .slice none 0 0]) ?_ 0 _ rfl; (with_reducible repeat (first | refine kN ?_ _ | refine kD ?_ | refine kA ?_ _)); exact BK145.out) hb); have n2_ := aS (q09 (by repeat (first | (with_reducible first | exact HB.out | apply bA | apply bN | apply bD | refine bS ?_ GE143.out | refine bS ?_ GE145.out) | exact HB.out)) hb); clear BK143; clear BK145; clear HB; have BK143 := n0_; have BK145 := n1_; have HB := n2_; clear n0_ n1_ n2_; (try clear hb); (try clear hb2); (try clear hk); (try clear hi)))
          go_ret
          exact ⟨by first | rfl | (simp [q0b, q0a] <;> rfl) | (simp [*, q0b, q0a] <;> rfl), by repeat (first | (with_reducible first | exact HB.out | apply bA | apply bN | apply bD | refine bS ?_ GE143.out | refine bS ?_ GE145.out) | exact HB.out)⟩
       ·rw [if_neg c12] at H
        exact absurd H (by simp)
      ·rw [if_neg c11] at H
       exact absurd H (by simp)
     ·rw [if_neg c10] at H
      have c10b0 : decide (x22_1 < (l0_0.length : Int)) = false := decide_eq_false c10
      clear c10
      replace H := Option.bind_eq_some_iff.mp H
      obtain ⟨t147, A270, H⟩ := H
      replace H : (if t147 = 0 then (q1a.l1 k1 (l0_0.length : Int) 0 l0_0 a0_1) else (some t147)) = some r := H
      have A27 := aS A270
      clear A270
      by_cases c28 : t147 = 0
      ·rw [if_pos c28] at H
       have c28b0 : (t147 == 0) = true := beq_iff_eq.mpr c28
       have c28b1 : (t147 != 0) = false := bne_eq_false_iff_eq.mpr c28
       clear c28
       have H' := aS H
       clear H
       have hcz29_0 : wr.cell? ⟨gb143, 0, none⟩ = some (.slice A0_0 l0_0.length c0_0) := (q02 BK143.out 0).trans rfl
       have hcz29_1 : wr.cell? ⟨gb143, 1, none⟩ = some (.bool a0_1) := (q02 BK143.out 1).trans rfl
       have hfz29_0 := q01 BK143.out 0
       have hfz29_1 := q01 BK143.out 1
       go_wp2_with (first | ((with_reducible refine q0l (f := 101) rfl ?_); refine q1d (some 40) rfl rfl Tryd.func101 (by kernel_rfl) rfl #[.agg #[.slice A0_0 l0_0.length c0_0, .bool a0_1]] rfl (by (try simp only [List.map_toArray, List.map_cons, List.map_nil]); first | done | rfl | (simp only [List.length_drop, List.length_take]; rfl)) ?_; (with_reducible refine (q0w.calls k1 _ _ l0_0 a0_1 t147 _ ?side1 ?side2 A27.out).mono ?_); (case side1 => repeat (first | exact (Kd.C_below HR0_0.out HB.out) | (with_reducible refine cA ?_ _) | (with_reducible refine cN ?_ _) | (with_reducible refine cD ?_))); (case side2 => exact HC0_0.out); rintro e w30 ⟨rfl, hb⟩; refine ⟨_, rfl, ?_⟩; have n0_ := aS (q16 (g := gb143) (o := .cells #[.slice A0_0 l0_0.length c0_0, .bool a0_1] 24 (0, 0)) (by (with_reducible repeat (first | refine kN ?_ _ | refine kD ?_ | refine kA ?_ _)); exact BK143.out) hb); have n1_ := aS (q09 (by repeat (first | (with_reducible first | exact HB.out | apply bA | apply bN | apply bD | refine bS ?_ GE143.out) | exact HB.out)) hb); clear BK143; clear HB; have BK143 := n0_; have HB := n1_; clear n0_ n1_; (try clear hb); (try clear hb2); (try clear hk); (try clear hi); have hcz31_0 : w30.cell? ⟨gb143, 0, none⟩ = some (.slice A0_0 l0_0.length c0_0) := (q02 BK143.out 0).trans rfl; have hcz31_1 : w30.cell? ⟨gb143, 1, none⟩ = some (.bool a0_1) := (q02 BK143.out 1).trans rfl; have hfz31_0 := q01 BK143.out 0; have hfz31_1 := q01 BK143.out 1))
       go_loopg [47] k1 (fun kq v47 w' => ∃ (x47_2 : Int), v47 = .int .i64 x47_2 ∧ Aside0 (q1a.l1 kq (l0_0.length : Int) x47_2 l0_0 a0_1 = some r) ∧ Aside0 (kq ≤ k1) ∧ Aside0 (w'.heap[gb143]? = some (.cells #[(.slice A0_0 l0_0.length c0_0), .bool a0_1] 24 (0, 0))) ∧ Aside0 (Below w.heap.size w w'))
       case atStart => exact ⟨(0), (by first | rfl | (simp; done) | simp [*]), H', ⟨Nat.le_refl _⟩, ⟨by (with_reducible repeat (first | refine kN ?_ _ | refine kD ?_ | refine kA ?_ _)); exact BK143.out⟩, ⟨by repeat (first | (with_reducible first | exact HB.out | apply bA | apply bN | apply bD | refine bS ?_ GE143.out) | exact HB.out)⟩⟩
       case round =>
        clear H'
        try clear c1
        try clear p1
        try clear q1
        try clear hx1
        try clear c2
        try clear c2b0
        try clear c2b1
        try clear p2
        try clear c5
        try clear c5b0
        try clear c5b1
        try clear c5b2
        try clear p6
        try clear c10
        try clear c10b0
        try clear c11
        try clear c11b0
        try clear c12
        try clear c12b0
        try clear c13
        try clear c13b0
        try clear c13b1
        try clear c13b2
        try clear c14
        try clear p14
        try clear q14
        try clear hx14
        try clear c15
        try clear c18
        try clear c18b0
        try clear c18b1
        try clear c20
        try clear c24
        try clear c28
        try clear c28b0
        try clear c28b1
        try clear hcz16_0
        try clear hcz16_1
        try clear hcz16_2
        try clear hcz16_3
        try clear hcz16_4
        try clear hcz16_5
        try clear hcz21_0
        try clear hcz21_1
        try clear hcz21_2
        try clear hcz21_3
        try clear hcz21_4
        try clear hcz21_5
        try clear hcz25_0
        try clear hcz25_1
        try clear hcz25_2
        try clear hcz25_3
        try clear hcz25_4
        try clear hcz25_5
        try clear hcz29_0
        try clear hcz29_1
        try clear hcz31_0
        try clear hcz31_1
        try clear hcz4_0
        try clear hcz4_1
        try clear hcz7_0
        try clear hcz7_1
        try clear hcz9_0
        try clear hcz9_1
        try clear hfz16_0
        try clear hfz16_1
        try clear hfz16_2
        try clear hfz16_3
        try clear hfz16_4
        try clear hfz16_5
        try clear hfz21_0
        try clear hfz21_1
        try clear hfz21_2
        try clear hfz21_3
        try clear hfz21_4
        try clear hfz21_5
        try clear hfz25_0
        try clear hfz25_1
        try clear hfz25_2
        try clear hfz25_3
        try clear hfz25_4
        try clear hfz25_5
        try clear hfz29_0
        try clear hfz29_1
        try clear hfz31_0
        try clear hfz31_1
        try clear hfz4_0
        try clear hfz4_1
        try clear hfz7_0
        try clear hfz7_1
        try clear hfz9_0
        try clear hfz9_1
        try clear hx144_0
        try clear hx144_1
        try clear hx144_2
        try clear hx144_3
        try clear hx144_4
        try clear hx144_5
        try clear p144
        try clear p2
        try clear q144
        obtain ⟨x47_2, rfl, HA, HK2, BK143, HB⟩ := hrel
        cases gk with
        | zero => exact absurd HA.out (by simp [q1a.l1])
        | succ k2 =>
         have H := HA.out
         clear HA
         simp only [q1a.l1] at H
         by_cases c32 : x47_2 < (l0_0.length : Int)
         ·rw [if_pos c32] at H
          have c32b0 : decide (x47_2 < (l0_0.length : Int)) = true := decide_eq_true c32
          clear c32
          replace H := Option.bind_eq_some_iff.mp H
          obtain ⟨t148, A330, H⟩ := H
          replace H : (if t148 > (l0_0.length : Int) then (some 8) else (if t148 > 40 then (some 2) else (q1a.l1 k2 (l0_0.length : Int) (wrap64 (x47_2 + 1)) l0_0 a0_1))) = some r := H
          have A33 := aS A330
          clear A330
          by_cases c34 : t148 > (l0_0.length : Int)
          ·rw [if_pos c34] at H
           have c34b0 : decide ((l0_0.length : Int) < t148) = true := decide_eq_true c34
           clear c34
           obtain rfl := Option.some.inj H
           have hcz35_0 : wr.cell? ⟨gb143, 0, none⟩ = some (.slice A0_0 l0_0.length c0_0) := (q02 BK143.out 0).trans rfl
           have hcz35_1 : wr.cell? ⟨gb143, 1, none⟩ = some (.bool a0_1) := (q02 BK143.out 1).trans rfl
           have hfz35_0 := q01 BK143.out 0
           have hfz35_1 := q01 BK143.out 1
           go_wp2_with (first | ((with_reducible refine q0l (f := 102) rfl ?_); refine q1d (some 52) rfl rfl Tryd.func102 (by kernel_rfl) rfl #[.agg #[.slice A0_0 l0_0.length c0_0, .bool a0_1], .int .i64 x47_2] rfl (by (try simp only [List.map_toArray, List.map_cons, List.map_nil]); first | done | rfl | (simp only [List.length_drop, List.length_take]; rfl)) ?_; (with_reducible refine (q1x.calls k2 _ _ l0_0 a0_1 x47_2 t148 _ ?side1 ?side2 A33.out).mono ?_); (case side1 => repeat (first | exact (Kd.C_below HR0_0.out HB.out) | (with_reducible refine cA ?_ _) | (with_reducible refine cN ?_ _) | (with_reducible refine cD ?_))); (case side2 => exact HC0_0.out); rintro e w36 ⟨rfl, hb⟩; refine ⟨_, rfl, ?_⟩; have n0_ := aS (q16 (g := gb143) (o := .cells #[.slice A0_0 l0_0.length c0_0, .bool a0_1] 24 (0, 0)) (by (with_reducible repeat (first | refine kN ?_ _ | refine kD ?_ | refine kA ?_ _)); exact BK143.out) hb); have n1_ := aS (q09 (by repeat (first | (with_reducible first | exact HB.out | apply bA | apply bN | apply bD | refine bS ?_ GE143.out) | exact HB.out)) hb); clear BK143; clear HB; have BK143 := n0_; have HB := n1_; clear n0_ n1_; (try clear hb); (try clear hb2); (try clear hk); (try clear hi); have hcz37_0 : w36.cell? ⟨gb143, 0, none⟩ = some (.slice A0_0 l0_0.length c0_0) := (q02 BK143.out 0).trans rfl; have hcz37_1 : w36.cell? ⟨gb143, 1, none⟩ = some (.bool a0_1) := (q02 BK143.out 1).trans rfl; have hfz37_0 := q01 BK143.out 0; have hfz37_1 := q01 BK143.out 1))
           go_ret
           exact ⟨by first | rfl | (simp [q0b, q0a] <;> rfl) | (simp [*, q0b, q0a] <;> rfl), by repeat (first | (with_reducible first | exact HB.out | apply bA | apply bN | apply bD | refine bS ?_ GE143.out) | exact HB.out)⟩
          ·rw [if_neg c34] at H
           have c34b0 : decide ((l0_0.length : Int) < t148) = false := decide_eq_false c34
           clear c34
           by_cases c38 : t148 > 40
           ·rw [if_pos c38] at H
            have c38b0 : decide (40 < t148) = true := decide_eq_true c38
            clear c38
            obtain rfl := Option.some.inj H
            have hcz39_0 : wr.cell? ⟨gb143, 0, none⟩ = some (.slice A0_0 l0_0.length c0_0) := (q02 BK143.out 0).trans rfl
            have hcz39_1 : wr.cell? ⟨gb143, 1, none⟩ = some (.bool a0_1) := (q02 BK143.out 1).trans rfl
            have hfz39_0 := q01 BK143.out 0
            have hfz39_1 := q01 BK143.out 1
            go_wp2_with (first | ((with_reducible refine q0l (f := 102) rfl ?_); refine q1d (some 52) rfl rfl Tryd.func102 (by kernel_rfl) rfl #[.agg #[.slice A0_0 l0_0.length c0_0, .bool a0_1], .int .i64 x47_2] rfl (by (try simp only [List.map_toArray, List.map_cons, List.map_nil]); first | done | rfl | (simp only [List.length_drop, List.length_take]; rfl)) ?_; (with_reducible refine (q1x.calls k2 _ _ l0_0 a0_1 x47_2 t148 _ ?side1 ?side2 A33.out).mono ?_); (case side1 => repeat (first | exact (Kd.C_below HR0_0.out HB.out) | (with_reducible refine cA ?_ _) | (with_reducible refine cN ?_ _) | (with_reducible refine cD ?_))); (case side2 => exact HC0_0.out); rintro e w40 ⟨rfl, hb⟩; refine ⟨_, rfl, ?_⟩; have n0_ := aS (q16 (g := gb143) (o := .cells #[.slice A0_0 l0_0.length c0_0, .bool a0_1] 24 (0, 0)) (by (with_reducible repeat (first | refine kN ?_ _ | refine kD ?_ | refine kA ?_ _)); exact BK143.out) hb); have n1_ := aS (q09 (by repeat (first | (with_reducible first | exact HB.out | apply bA | apply bN | apply bD | refine bS ?_ GE143.out) | exact HB.out)) hb); clear BK143; clear HB; have BK143 := n0_; have HB := n1_; clear n0_ n1_; (try clear hb); (try clear hb2); (try clear hk); (try clear hi); have hcz41_0 : w40.cell? ⟨gb143, 0, none⟩ = some (.slice A0_0 l0_0.length c0_0) := (q02 BK143.out 0).trans rfl; have hcz41_1 : w40.cell? ⟨gb143, 1, none⟩ = some (.bool a0_1) := (q02 BK143.out 1).trans rfl; have hfz41_0 := q01 BK143.out 0; have hfz41_1 := q01 BK143.out 1))
            go_ret
            exact ⟨by first | rfl | (simp [q0b, q0a] <;> rfl) | (simp [*, q0b, q0a] <;> rfl), by repeat (first | (with_reducible first | exact HB.out | apply bA | apply bN | apply bD | refine bS ?_ GE143.out) | exact HB.out)⟩
           ·rw [if_neg c38] at H
            have c38b0 : decide (40 < t148) = false := decide_eq_false c38
            clear c38
            have H' := aS H
            clear H
            have hcz42_0 : wr.cell? ⟨gb143, 0, none⟩ = some (.slice A0_0 l0_0.length c0_0) := (q02 BK143.out 0).trans rfl
            have hcz42_1 : wr.cell? ⟨gb143, 1, none⟩ = some (.bool a0_1) := (q02 BK143.out 1).trans rfl
            have hfz42_0 := q01 BK143.out 0
            have hfz42_1 := q01 BK143.out 1
            go_wp2_with (first | ((with_reducible refine q0l (f := 102) rfl ?_); refine q1d (some 52) rfl rfl Tryd.func102 (by kernel_rfl) rfl #[.agg #[.slice A0_0 l0_0.length c0_0, .bool a0_1], .int .i64 x47_2] rfl (by (try simp only [List.map_toArray, List.map_cons, List.map_nil]); first | done | rfl | (simp only [List.length_drop, List.length_take]; rfl)) ?_; (with_reducible refine (q1x.calls k2 _ _ l0_0 a0_1 x47_2 t148 _ ?side1 ?side2 A33.out).mono ?_); (case side1 => repeat (first | exact (Kd.C_below HR0_0.out HB.out) | (with_reducible refine cA ?_ _) | (with_reducible refine cN ?_ _) | (with_reducible refine cD ?_))); (case side2 => exact HC0_0.out); rintro e w43 ⟨rfl, hb⟩; refine ⟨_, rfl, ?_⟩; have n0_ := aS (q16 (g := gb143) (o := .cells #[.slice A0_0 l0_0.length c0_0, .bool a0_1] 24 (0, 0)) (by (with_reducible repeat (first | refine kN ?_ _ | refine kD ?_ | refine kA ?_ _)); exact BK143.out) hb); have n1_ := aS (q09 (by repeat (first | (with_reducible first | exact HB.out | apply bA | apply bN | apply bD | refine bS ?_ GE143.out) | exact HB.out)) hb); clear BK143; clear HB; have BK143 := n0_; have HB := n1_; clear n0_ n1_; (try clear hb); (try clear hb2); (try clear hk); (try clear hi); have hcz44_0 : w43.cell? ⟨gb143, 0, none⟩ = some (.slice A0_0 l0_0.length c0_0) := (q02 BK143.out 0).trans rfl; have hcz44_1 : w43.cell? ⟨gb143, 1, none⟩ = some (.bool a0_1) := (q02 BK143.out 1).trans rfl; have hfz44_0 := q01 BK143.out 0; have hfz44_1 := q01 BK143.out 1))
            go_roundg k2
            case measure => have := HK1.out; have := HK2.out; omega
            case rel => exact ⟨(wrap64 (x47_2 + 1)), (by first | rfl | (simp; done) | simp [*]), H', ⟨by have := HK1.out; have := HK2.out; omega⟩, ⟨by (with_reducible repeat (first | refine kN ?_ _ | refine kD ?_ | refine kA ?_ _)); exact BK143.out⟩, ⟨by repeat (first | (with_reducible first | exact HB.out | apply bA | apply bN | apply bD | refine bS ?_ GE143.out) | exact HB.out)⟩⟩
         ·rw [if_neg c32] at H
          have c32b0 : decide (x47_2 < (l0_0.length : Int)) = false := decide_eq_false c32
          clear c32
          obtain rfl := Option.some.inj H
          go_wp2
          go_ret
          exact ⟨by first | rfl | (simp [q0b, q0a] <;> rfl) | (simp [*, q0b, q0a] <;> rfl), by repeat (first | (with_reducible first | exact HB.out | apply bA | apply bN | apply bD | refine bS ?_ GE143.out) | exact HB.out)⟩
      ·rw [if_neg c28] at H
       have c28b0 : (t147 == 0) = false := beq_eq_false_iff_ne.mpr c28
       have c28b1 : (t147 != 0) = true := bne_iff_ne.mpr c28
       obtain rfl := Option.some.inj H
       have hcz45_0 : wr.cell? ⟨gb143, 0, none⟩ = some (.slice A0_0 l0_0.length c0_0) := (q02 BK143.out 0).trans rfl
       have hcz45_1 : wr.cell? ⟨gb143, 1, none⟩ = some (.bool a0_1) := (q02 BK143.out 1).trans rfl
       have hfz45_0 := q01 BK143.out 0
       have hfz45_1 := q01 BK143.out 1
       go_wp2_with (first | ((with_reducible refine q0l (f := 101) rfl ?_); refine q1d (some 40) rfl rfl Tryd.func101 (by kernel_rfl) rfl #[.agg #[.slice A0_0 l0_0.length c0_0, .bool a0_1]] rfl (by (try simp only [List.map_toArray, List.map_cons, List.map_nil]); first | done | rfl | (simp only [List.length_drop, List.length_take]; rfl)) ?_; (with_reducible refine (q0w.calls k1 _ _ l0_0 a0_1 t147 _ ?side1 ?side2 A27.out).mono ?_); (case side1 => repeat (first | exact (Kd.C_below HR0_0.out HB.out) | (with_reducible refine cA ?_ _) | (with_reducible refine cN ?_ _) | (with_reducible refine cD ?_))); (case side2 => exact HC0_0.out); rintro e w46 ⟨rfl, hb⟩; refine ⟨_, rfl, ?_⟩; have n0_ := aS (q16 (g := gb143) (o := .cells #[.slice A0_0 l0_0.length c0_0, .bool a0_1] 24 (0, 0)) (by (with_reducible repeat (first | refine kN ?_ _ | refine kD ?_ | refine kA ?_ _)); exact BK143.out) hb); have n1_ := aS (q09 (by repeat (first | (with_reducible first | exact HB.out | apply bA | apply bN | apply bD | refine bS ?_ GE143.out) | exact HB.out)) hb); clear BK143; clear HB; have BK143 := n0_; have HB := n1_; clear n0_ n1_; (try clear hb); (try clear hb2); (try clear hk); (try clear hi)))
       go_ret
       exact ⟨by first | rfl | (simp [q0b, q0a] <;> rfl) | (simp [*, q0b, q0a] <;> rfl), by repeat (first | (with_reducible first | exact HB.out | apply bA | apply bN | apply bD | refine bS ?_ GE143.out) | exact HB.out)⟩
end Go.Proofs.YthjnallbbhnndaaDoor.XWk
namespace Go.Proofs.YthjnallbbhnndaaDoor.XWk
open Go.Proofs.YthjnallbbhnndaaDoor.Short Go.RowKit Go.Proofs.YthjnallbbhnndaaDoorW.PrintWords Go.Proofs.YthjnallbbhnndaaDoorW.PrintLast Go.Proofs.YthjnallbbhnndaaDoorW.PrintMore
attribute [local go_sem] q27 q25 q2l q2k q1w q1v q26 q24   -- for this text's walks alone
set_option linter.unusedVariables false
set_option linter.unusedSimpArgs false
def q0f.l0 : Nat → List Int → Int → Int → Option (List Int)
 | 0, _, _, _ => none
 | k + 1, x0, x2, x3 => if x2 < x3 then (if 0 ≤ x3 then (if x3 < (x0.length : Int) then (if 0 ≤ x2 then (if x2 < (x0.length : Int) then (q0f.l0 k ((x0.set (x2 : Int).toNat (rd x0 x3)).set (x3 : Int).toNat (rd x0 x2)) (wrap64 (x2 + 1)) (wrap64 (x3 - 1))) else (none)) else (none)) else (none)) else (none)) else (some x0)
def q0f.f (k : Nat) (l0 : List Int) : Option (List Int) := q0f.l0 k l0 0 (wrap64 ((l0.length : Int) - 1))
theorem q0f.mono_l : ∀ k, (∀ y0 y1 y2, LeO (q0f.l0 k y0 y1 y2) (q0f.l0 (k + 1) y0 y1 y2))
 | 0 => fun _ _ _ r h => by simp [q0f.l0] at h
 | k + 1 => by
  have ih0 := q0f.mono_l k
  ·intro y0 y1 y2
   unfold q0f.l0
   repeat' first
   | (with_reducible exact ih0 _ _ _)
   | (with_reducible exact LeO.refl _)
   | (with_reducible exact LeO.none _)
   | (with_reducible refine LeO.ite ?_ ?_)
   | (with_reducible refine LeO.bind ?_ (fun _ => ?_))
   | exact ih0 _ _ _
   | exact LeO.none _
   | refine LeO.ite ?_ ?_
   | refine LeO.bind ?_ (fun _ => ?_)
theorem q0f.mono : ∀ a0 k, LeO (q0f.f k a0) (q0f.f (k + 1) a0) := by
 intro a0 k
 have ih0 := q0f.mono_l k
 unfold q0f.f
 repeat' first
  | (with_reducible exact ih0 _ _ _)
  | (with_reducible exact LeO.refl _)
  | (with_reducible exact LeO.none _)
  | (with_reducible refine LeO.ite ?_ ?_)
  | (with_reducible refine LeO.bind ?_ (fun _ => ?_))
  | exact ih0 _ _ _
  | exact LeO.none _
  | refine LeO.ite ?_ ?_
  | refine LeO.bind ?_ (fun _ => ?_)
def q0f.T3 : Bool × List (List Nat × List Nat) := (true, [([], []), ([], []), ([], []), ([], []), ([], []), ([], []), ([4, 5], [4, 5]), ([6], [6]), ([], []), ([], []), ([8, 9], [8, 9]), ([10], [10]), ([0, 1, 0, 1, 4, 5, 6, 7, 11], [0, 1]), ([12, 7, 0, 1, 4, 5, 6, 7, 11], [7, 12]), ([2, 3, 0, 1, 2, 3, 4, 5, 6, 7, 8, 9, 10, 11, 12, 13], [2, 3]), ([14, 11, 13, 0, 1, 2, 3, 4, 5, 6, 7, 8, 9, 10, 11, 12, 13], [11, 14])])
def q0f.B3 : List Nat := [0, 0, 0, 0, 0, 0, 48, 112, 0, 0, 768, 1792, 4083, 8179, 16383, 32767]
theorem q0f.tab3 : rtab .any (opsOf Tryd.f111 3) = q0f.T3 := by kernel_rfl
theorem q0f.bits3 : waitsOk q0f.T3.2 q0f.B3 = true := by kernel_rfl
set_option maxHeartbeats 8000000 in
set_option maxRecDepth 100000 in
theorem q0f.calls (k : Nat) (P0_ : Nat → Prop) (u9000_ : Value) (l0 : List Int) (r : List Int) (w0 w : World) (hB : Below w0.heap.size w0 w) (ho0 : Kd.R (Kd.int .i64) 3 w w0.heap.size P0_ u9000_ l0) (h : q0f.f k l0 = some r) :
 Calls Tryd.prog 111 #[u9000_] w fun e w' => e = .returned (.tuple #[]) ∧ Kd.R (Kd.int .i64) 3 w' w0.heap.size (fun k_ => (P0_ k_ ∨ w.heap.size ≤ k_)) u9000_ r ∧ Below w0.heap.size w0 w' ∧ Kept w w' (fun k_ => P0_ k_) := by
 have HO0 := aS (show Kd.R (Kd.int .i64) 3 w w0.heap.size (fun k_ => (P0_ k_ ∨ w.heap.size ≤ k_)) u9000_ l0 from Kd.R_mono ho0 (fun k_ hk => (.inl hk)))
 have HK := aS (Kept.refl w (fun k_ => P0_ k_))
 have HW0 := aS hB.size
 have HB := aS hB
 clear hB
 have H : (q0f.l0 k l0 0 (wrap64 ((l0.length : Int) - 1))) = some r := h
 clear h
 have H' := aS H
 clear H
 obtain ⟨Ao2, co2, eo2⟩ := Kd.R_slice HO0.out
 subst eo2
 go_enter Tryd.func111, Tryd.ntmps111
 go_wp2
 go_loopg [2, 3] k (fun kq v2 v3 w' => ∃ (x0_1 : List Int) (x2_1 : Int) (x3_1 : Int), v2 = .int .i64 x2_1 ∧ v3 = .int .i64 x3_1 ∧ Aside0 (q0f.l0 kq x0_1 x2_1 x3_1 = some r) ∧ Aside0 (kq ≤ k) ∧ Aside0 (Kd.R (Kd.int .i64) 3 w' w0.heap.size (fun k_ => (P0_ k_ ∨ w.heap.size ≤ k_)) (.slice Ao2 l0.length co2) x0_1) ∧ Aside0 (Kept w w' (fun k_ => P0_ k_)) ∧ Aside0 (Below w0.heap.size w0 w'))
 case atStart => exact ⟨(l0), (0), (wrap64 ((l0.length : Int) - 1)), (by first | rfl | (simp; done) | simp [*]), (by first | rfl | (simp; done) | simp [*]), H', ⟨Nat.le_refl _⟩, ⟨by (with_reducible repeat (first | apply rA | apply rN | apply rD)); exact HO0.out⟩, ⟨by repeat (first | (with_reducible first | exact HK.out | apply Kept.alloc | apply Kept.drewN | apply Kept.drew) | exact HK.out)⟩, ⟨by repeat (first | (with_reducible first | exact HB.out | apply bA | apply bN | apply bD) | exact HB.out)⟩⟩
 case round =>
  clear H'
  try clear c1
  try clear p2
  obtain ⟨x0_1, x2_1, x3_1, rfl, rfl, HA, HK1, HO_0, HK, HB⟩ := hrel
  have hl0_1 := (Kd.R_reads' HO_0.out).1
  rw [hl0_1] at HO_0
  (try simp only [hl0_1])
  cases gk with
  | zero => exact absurd HA.out (by simp [q0f.l0])
  | succ k1 =>
   have H := HA.out
   clear HA
   simp only [q0f.l0] at H
   by_cases c3 : x2_1 < x3_1
   ·rw [if_pos c3] at H
    have c3b0 : decide (x2_1 < x3_1) = true := decide_eq_true c3
    clear c3
    by_cases c4 : 0 ≤ x3_1
    ·rw [if_pos c4] at H
     have c4b0 : decide (0 ≤ x3_1) = true := decide_eq_true c4
     clear c4
     by_cases c5 : x3_1 < (x0_1.length : Int)
     ·rw [if_pos c5] at H
      have c5b0 : decide (x3_1 < (x0_1.length : Int)) = true := decide_eq_true c5
      clear c5
      by_cases c6 : 0 ≤ x2_1
      ·rw [if_pos c6] at H
       have c6b0 : decide (0 ≤ x2_1) = true := decide_eq_true c6
       clear c6
       by_cases c7 : x2_1 < (x0_1.length : Int)
       ·rw [if_pos c7] at H
        have c7b0 : decide (x2_1 < (x0_1.length : Int)) = true := decide_eq_true c7
        clear c7
        obtain ⟨y151, hy151⟩ : ∃ y_ : List Int, y_ = (x0_1.set (x2_1 : Int).toNat (rd x0_1 x3_1)) := ⟨_, rfl⟩
        replace H : (q0f.l0 k1 (y151.set (x3_1 : Int).toNat (rd x0_1 x2_1)) (wrap64 (x2_1 + 1)) (wrap64 (x3_1 - 1))) = some r := by first | (rw [hy151]; with_reducible exact H) | (have H2_ := (Option.bind_some _ _).symm.trans H; rw [hy151]; with_reducible exact H2_) | (have H2_ := (Option.bind_some _ _).symm.trans H; with_reducible exact H2_) | with_reducible exact H | (rw [hy151]; exact H) | exact H
        have Ny151 := aS hy151
        clear hy151
        obtain ⟨y152, hy152⟩ : ∃ y_ : List Int, y_ = (y151.set (x3_1 : Int).toNat (rd x0_1 x2_1)) := ⟨_, rfl⟩
        replace H : (q0f.l0 k1 y152 (wrap64 (x2_1 + 1)) (wrap64 (x3_1 - 1))) = some r := by first | (rw [hy152]; with_reducible exact H) | (have H2_ := (Option.bind_some _ _).symm.trans H; rw [hy152]; with_reducible exact H2_) | (have H2_ := (Option.bind_some _ _).symm.trans H; with_reducible exact H2_) | with_reducible exact H | (rw [hy152]; exact H) | exact H
        have Ny152 := aS hy152
        clear hy152
        have H' := aS H
        clear H
        try go_wp2
        have n0_ := aS (Kd.R_drew HO_0.out)
        have n1_ := aS (Kept.drew HK.out)
        have n2_ := aS (q2f HB.out)
        clear HO_0
        clear HK
        clear HB
        have HO_0 := n0_
        have HK := n1_
        have HB := n2_
        clear n0_ n1_ n2_
        have p149 : 0 ≤ (x3_1 : Int) := od (by first | (with_reducible assumption) | assumption)
        have q149 : x3_1 < (x0_1.length : Int) := od (by first | (with_reducible assumption) | assumption)
        obtain ⟨ad149, e149, hx149_0⟩ := Kd.at_int (Kd.R_reads' HO_0.out).2.2 x3_1 p149 q149
        cases e149
        replace p149 := eq_true p149
        replace q149 := eq_true q149
        have p150 : 0 ≤ (x2_1 : Int) := od (by first | (with_reducible assumption) | assumption)
        have q150 : x2_1 < (x0_1.length : Int) := od (by first | (with_reducible assumption) | assumption)
        obtain ⟨ad150, e150, hx150_0⟩ := Kd.at_int (Kd.R_reads' HO_0.out).2.2 x2_1 p150 q150
        obtain rfl : ad149 = ad150 := (by injection e150)
        replace p150 := eq_true p150
        replace q150 := eq_true q150
        have p8 : 0 ≤ (x2_1 : Int) := od (by first | (with_reducible assumption) | assumption)
        have q8 : (x2_1 : Int) < ((x0_1.length : Int) : Int) := od (by first | (with_reducible assumption) | assumption)
        obtain ⟨go8, co8, eo8, gb8, gl8, cl8, HG8⟩ := Kd.R_form HO_0.out (by omega)
        (first | cases eo8 | (injection eo8 with ea_ en_ ec_; (first | subst ea_ | (injection ea_ with ea_; subst ea_)); subst ec_; clear en_))
        have GB8 := aS gb8
        have GG8 := aS HG8
        clear gb8 gl8 HG8
        have HMgo8 := aS (show (P0_ go8 ∨ w.heap.size ≤ go8) from (HO_0.out.1 _ rfl))
        (first | simp only [add_plain] at hx149_0 | skip)
        (first | simp only [add_plain] at hx150_0 | skip)
        obtain ⟨hx8_0, hf8_0⟩ := Kd.R_celln 0 HO_0.out (x2_1 : Int) p8 q8
        replace p8 := eq_true p8
        replace q8 := eq_true q8
        have HP11 := Kd.R_putn HO_0.out (x2_1 : Int) (rd x0_1 x3_1)
        rw [← Ny151.out] at HP11
        have HQ11 := aS HP11
        clear HP11
        have p9 : 0 ≤ (x3_1 : Int) := od (by first | (with_reducible assumption) | assumption)
        have q9 : (x3_1 : Int) < ((x0_1.length : Int) : Int) := od (by first | (with_reducible assumption) | assumption)
        obtain ⟨hx9_0, hf9_0⟩ := Kd.R_celln 0 HQ11.out (x3_1 : Int) p9 q9
        replace p9 := eq_true p9
        replace q9 := eq_true q9
        have HP12 := Kd.R_putn HQ11.out (x3_1 : Int) (rd x0_1 x2_1)
        rw [← Ny152.out] at HP12
        have HQ12 := aS HP12
        clear HP12
        refine start_ (n := 16) (S := fun w' => w'.cell? ⟨go8, (x3_1).toNat, none⟩ = some (.int .i64 (rd x0_1 x3_1)) ∧ w'.cell? ⟨go8, (x2_1).toNat, none⟩ = some (.int .i64 (rd x0_1 x2_1))) (ds := [13, 15]) #[false, false, false, false, false, false, false, false, false, false, false, false, false, false, false, false] (by kernel_rfl) rfl rfl ⟨hx149_0, hx150_0⟩ (fun hHeld => ?_); refine with_tabW q0f.tab3 q0f.bits3 (fun HT_ HW_ => ?_)
        generalize wr.drew = w10 at HO_0 HK HB GG8 HQ11 HQ12 hf8_0 hf9_0 hx149_0 hx150_0 hx8_0 hx9_0 hHeld ⊢
        refine q1u (i := 0) (N := some 14) (v := ?_) (a' := ?_) #[true, false, false, false, false, false, false, false, false, false, false, false, false, false, false, false] rfl rfl (q1n HT_.out (by kernel_rfl)) (fun _ _ _ h => h) (Or.inl ⟨by rfl, ?_⟩) ?_ ?_
        rotate_left
        ·intro w'
         go_simp
         with_reducible rfl
        rotate_left
        ·simp only [Act.put, s1, s2, s3, q1e, q1i]
         rfl
        refine q1u (i := 1) (N := some 15) (v := ?_) (a' := ?_) #[true, true, false, false, false, false, false, false, false, false, false, false, false, false, false, false] rfl rfl (q1n HT_.out (by kernel_rfl)) (fun _ _ _ h => h) (Or.inl ⟨by rfl, ?_⟩) ?_ ?_
        rotate_left
        ·intro w'
         go_simp
         with_reducible rfl
        rotate_left
        ·simp only [Act.put, s1, s2, s3, q1e, q1i]
         rfl
        refine q1u (i := 2) (N := some 16) (v := ?_) (a' := ?_) #[true, true, true, false, false, false, false, false, false, false, false, false, false, false, false, false] rfl rfl (q1n HT_.out (by kernel_rfl)) (fun _ _ _ h => h) (Or.inl ⟨by rfl, ?_⟩) ?_ ?_
        rotate_left
        ·intro w'
         go_simp
         with_reducible rfl
        rotate_left
        ·simp only [Act.put, s1, s2, s3, q1e, q1i]
         rfl
        refine q1u (i := 3) (N := some 17) (v := ?_) (a' := ?_) #[true, true, true, true, false, false, false, false, false, false, false, false, false, false, false, false] rfl rfl (q1n HT_.out (by kernel_rfl)) (fun _ _ _ h => h) (Or.inl ⟨by rfl, ?_⟩) ?_ ?_
        rotate_left
        ·intro w'
         go_simp
         with_reducible rfl
        rotate_left
        ·simp only [Act.put, s1, s2, s3, q1e, q1i]
         rfl
        refine q1u (i := 4) (N := some 18) (v := ?_) (a' := ?_) #[true, true, true, true, true, false, false, false, false, false, false, false, false, false, false, false] rfl rfl (q1n HT_.out (by kernel_rfl)) (fun _ _ _ h => h) (Or.inl ⟨by rfl, ?_⟩) ?_ ?_
        rotate_left
        ·intro w'
         go_simp
         with_reducible rfl
        rotate_left
        ·simp only [Act.put, s1, s2, s3, q1e, q1i]
         rfl
        refine q1u (i := 5) (N := some 19) (v := ?_) (a' := ?_) #[true, true, true, true, true, true, false, false, false, false, false, false, false, false, false, false] rfl rfl (q1n HT_.out (by kernel_rfl)) (fun _ _ _ h => h) (Or.inl ⟨by rfl, ?_⟩) ?_ ?_
        rotate_left
        ·intro w'
         go_simp
         with_reducible rfl
        rotate_left
        ·simp only [Act.put, s1, s2, s3, q1e, q1i]
         rfl
        refine q1u (i := 6) (N := some 20) (v := ?_) (a' := ?_) #[true, true, true, true, true, true, true, false, false, false, false, false, false, false, false, false] rfl rfl (q1n HT_.out (by kernel_rfl)) (fun _ _ _ h => h) (Or.inl ⟨by rfl, ?_⟩) ?_ ?_
        rotate_left
        ·intro w'
         go_simp
         with_reducible rfl
        rotate_left
        ·simp only [Act.put, s1, s2, s3, q1e, q1i]
         rfl
        refine q1u (i := 8) (N := some 22) (v := ?_) (a' := ?_) #[true, true, true, true, true, true, true, false, true, false, false, false, false, false, false, false] rfl rfl (q1n HT_.out (by kernel_rfl)) (fun _ _ _ h => h) (Or.inl ⟨by rfl, ?_⟩) ?_ ?_
        rotate_left
        ·intro w'
         go_simp
         with_reducible rfl
        rotate_left
        ·simp only [Act.put, s1, s2, s3, q1e, q1i]
         rfl
        refine q1u (i := 9) (N := some 23) (v := ?_) (a' := ?_) #[true, true, true, true, true, true, true, false, true, true, false, false, false, false, false, false] rfl rfl (q1n HT_.out (by kernel_rfl)) (fun _ _ _ h => h) (Or.inl ⟨by rfl, ?_⟩) ?_ ?_
        rotate_left
        ·intro w'
         go_simp
         with_reducible rfl
        rotate_left
        ·simp only [Act.put, s1, s2, s3, q1e, q1i]
         rfl
        refine q1u (i := 10) (N := some 24) (v := ?_) (a' := ?_) #[true, true, true, true, true, true, true, false, true, true, true, false, false, false, false, false] rfl rfl (q1n HT_.out (by kernel_rfl)) (fun _ _ _ h => h) (Or.inl ⟨by rfl, ?_⟩) ?_ ?_
        rotate_left
        ·intro w'
         go_simp
         with_reducible rfl
        rotate_left
        ·simp only [Act.put, s1, s2, s3, q1e, q1i]
         rfl
        refine take_ (i := 7) (N := some 21) (v := ?_) (a' := ?_) #[true, true, true, true, true, true, true, true, true, true, true, false, false, false, false, false] rfl rfl (q2q HT_.out HW_.out (by kernel_rfl)) (fun _ _ _ h => h) (Or.inl ⟨by rfl, ?_⟩) hHeld ?_ ?_
        rotate_left
        ·rintro w' ⟨s0, s1⟩
         go_simp
         with_reducible rfl
        rotate_left
        ·simp only [Act.put, s1, s2, s3, q1e, q1i]
         rfl
        refine take_ (i := 11) (N := some 25) (v := ?_) (a' := ?_) #[true, true, true, true, true, true, true, true, true, true, true, true, false, false, false, false] rfl rfl (q2q HT_.out HW_.out (by kernel_rfl)) (fun _ _ _ h => h) (Or.inl ⟨by rfl, ?_⟩) hHeld ?_ ?_
        rotate_left
        ·rintro w' ⟨s0, s1⟩
         go_simp
         with_reducible rfl
        rotate_left
        ·simp only [Act.put, s1, s2, s3, q1e, q1i]
         rfl
        refine q1u (i := 12) (N := some 26) (v := ?_) (a' := ?_) #[true, true, true, true, true, true, true, true, true, true, true, true, true, false, false, false] rfl rfl (q1n HT_.out (by kernel_rfl)) (fun _ _ _ h => h) (Or.inl ⟨by rfl, ?_⟩) ?_ ?_
        rotate_left
        ·intro w'
         go_simp
         with_reducible rfl
        rotate_left
        ·simp only [Act.put, s1, s2, s3, q1e, q1i]
         rfl
        refine last_ (i := 13) (N := none) #[true, true, true, true, true, true, true, true, true, true, true, true, true, true, false, false] rfl rfl (one_of HT_.out (by kernel_rfl)) (by decide) (fun K hK => ?_)
        refine skip_ (w1 := ?_) (by rfl) rfl ?_ ?_
        rotate_left
        ·go_simp
         rfl
        refine hK.out _ _ ?_
        clear hK K
        refine q1u (i := 14) (N := some 27) (v := ?_) (a' := ?_) #[true, true, true, true, true, true, true, true, true, true, true, true, true, true, true, false] rfl rfl (q1n HT_.out (by kernel_rfl)) (fun _ _ _ h => h) (Or.inl ⟨by rfl, ?_⟩) ?_ ?_
        rotate_left
        ·intro w'
         go_simp
         with_reducible rfl
        rotate_left
        ·simp only [Act.put, s1, s2, s3, q1e, q1i]
         rfl
        refine last_ (i := 15) (N := none) #[true, true, true, true, true, true, true, true, true, true, true, true, true, true, true, true] rfl rfl (one_of HT_.out (by kernel_rfl)) (by decide) (fun K hK => ?_)
        refine skip_ (w1 := ?_) (by rfl) rfl ?_ ?_
        rotate_left
        ·go_simp
         rfl
        refine hK.out _ _ ?_
        clear hK K
        refine done_ (done_of HT_.out (by kernel_rfl)) ?_
        try go_wp2
        (try simp only [← hl0_1])
        go_roundg k1
        case measure => have := HK1.out; omega
        case rel => exact ⟨(y152), (wrap64 (x2_1 + 1)), (wrap64 (x3_1 - 1)), (by first | rfl | (simp; done) | simp [*]), (by first | rfl | (simp; done) | simp [*]), H', ⟨by have := HK1.out; omega⟩, ⟨by (try simp only [hl0_1]); (with_reducible repeat (first | apply rA | apply rN | apply rD)); exact HQ12.out⟩, ⟨by repeat (first | (with_reducible first | exact HK.out | apply Kept.alloc | apply Kept.drewN | apply Kept.drew | refine Kept.setCell ?_ HMgo8.out _ | refine Kept.setCell ?_ HMgo8.out _) | exact HK.out)⟩, ⟨by repeat (first | (with_reducible first | exact HB.out | apply bA | apply bN | apply bD | refine bS ?_ GB8.out | refine bS ?_ GB8.out) | exact HB.out)⟩⟩
       ·rw [if_neg c7] at H
        exact absurd H (by simp)
      ·rw [if_neg c6] at H
       exact absurd H (by simp)
     ·rw [if_neg c5] at H
      exact absurd H (by simp)
    ·rw [if_neg c4] at H
     exact absurd H (by simp)
   ·rw [if_neg c3] at H
    have c3b0 : decide (x2_1 < x3_1) = false := decide_eq_false c3
    (try simp only [hl0_1] at c3b0)
    clear c3
    obtain rfl := Option.some.inj H
    go_wp2
    first | go_end0 | ((try simp only [Exit.inBlock, Exit.then]); refine bodyPost_ret (results_none rfl _ _ _) rfl ?_)
    exact ⟨by first | rfl | (simp [q0b, q0a] <;> rfl) | (simp [*, q0b, q0a] <;> rfl), (by first | exact (by (with_reducible repeat (first | apply rA | apply rN | apply rD)); exact HO_0.out) | (simp only [hl0_1]; exact (by (with_reducible repeat (first | apply rA | apply rN | apply rD)); exact HO_0.out))), by repeat (first | (with_reducible first | exact HB.out | apply bA | apply bN | apply bD) | exact HB.out), by repeat (first | (with_reducible first | exact HK.out | apply Kept.alloc | apply Kept.drewN | apply Kept.drew) | exact HK.out)⟩
def q0d (w0 W : World) (g : Nat) (f0 : List (S43)) (f1 : Bool) : Prop := ∃ A0 c0, W.heap[g]? = some (.cells #[.slice A0 f0.length c0, .bool f1] 116 (0, 0)) ∧ w0.heap.size ≤ g ∧ Kd.C k43 w0 A0 f0.length f0
theorem q0d.grown {w0 W : World} {g : Nat} {f0 : List (S43)} {f1 : Bool} {W1 : World} {row : Option Nat} (h : q0d w0 W g f0 f1) (hw : W.grownBy W1 row) (hne : some g ≠ row) : q0d w0 W1 g f0 f1 := by
 obtain ⟨A0, c0, hb, hg, hr0⟩ := h
 exact ⟨A0, c0, blk_grown hb hw hne, hg, hr0⟩
theorem q0d.own_neN {w0 W : World} {g : Nat} {f0 : List (S43)} {f1 : Bool} {α : Type} {d : Kd α} {e : Nat} {base : Nat} {ok : Nat → Prop} {v : Value} {xs : List α} (h : q0d w0 W g f0 f1) (ho : Kd.N d e W base ok v xs) (ht : e ≠ 116) : some g ≠ v.ownBlock := by
 obtain ⟨A0, c0, hb, hg, hr0⟩ := h
 exact Kd.N_ne ho hb ht
theorem q0d.fresh {w0 W : World} {g : Nat} {f0 : List (S43)} {f1 : Bool} (h : q0d w0 W g f0 f1) : ∀ k, W.heap.size ≤ k → k ≠ g := by
 obtain ⟨A0, c0, hb, hg, hr0⟩ := h
 exact Kd.freshB hb
theorem q0d.kept {w0 W : World} {g : Nat} {f0 : List (S43)} {f1 : Bool} {W1 : World} {S : Nat → Prop} (h : q0d w0 W g f0 f1) (hk : Kept W W1 S) (hne : ¬ S g) : q0d w0 W1 g f0 f1 := by
 obtain ⟨A0, c0, hb, hg, hr0⟩ := h
 exact ⟨A0, c0, blk_kept hb hk hne, hg, hr0⟩
theorem q0d.below {w0 W : World} {g : Nat} {f0 : List (S43)} {f1 : Bool} {W1 : World} (h : q0d w0 W g f0 f1) (hw : Below W.heap.size W W1) : q0d w0 W1 g f0 f1 := h.grown (grown_of_below hw none) (by simp)
theorem q0d.alloc {w0 W : World} {g : Nat} {f0 : List (S43)} {f1 : Bool} (h : q0d w0 W g f0 f1) (o : Obj) : q0d w0 (W.alloc o) g f0 f1 := h.below (q2a (Below.refl _ _) o)
theorem q0d.drewN {w0 W : World} {g : Nat} {f0 : List (S43)} {f1 : Bool} (h : q0d w0 W g f0 f1) (m : Nat) : q0d w0 (W.drewN m) g f0 f1 := h
theorem q0d.drew {w0 W : World} {g : Nat} {f0 : List (S43)} {f1 : Bool} (h : q0d w0 W g f0 f1) : q0d w0 W.drew g f0 f1 := h
theorem q0d.at_ {w0 W : World} {g : Nat} {f0 : List (S43)} {f1 : Bool} {w' : World} {m : Nat} (hq : W.drewN m = w') (h : q0d w0 W g f0 f1) : q0d w0 w' g f0 f1 := by subst hq; exact q0d.drewN h m
theorem q0d.apart {w0 W : World} {g : Nat} {f0 : List (S43)} {f1 : Bool} {α : Type} {d : Kd α} {e : Nat} {base : Nat} {ok : Nat → Prop} {v : Value} {xs : List α} (h : q0d w0 W g f0 f1) (ho : d.R e W base ok v xs) (ht : ∀ q, q ∈ e :: d.E → q ≠ 116) : d.R e W base (fun k => ok k ∧ k ≠ g) v xs := by
 obtain ⟨A0, c0, hb, hg, hr0⟩ := h
 exact Kd.R_types ho hb ht
theorem q0d.own_ne {w0 W : World} {g : Nat} {f0 : List (S43)} {f1 : Bool} {α : Type} {d : Kd α} {e : Nat} {base : Nat} {ok : Nat → Prop} {v : Value} {xs : List α} (h : q0d w0 W g f0 f1) (ho : d.R e W base ok v xs) (ht : e ≠ 116) : some g ≠ v.ownBlock := by
 obtain ⟨A0, c0, hb, hg, hr0⟩ := h
 exact Kd.R_ne ho hb ht
theorem q0d.apartQ {w0 W : World} {g : Nat} {f0 : List (S43)} {f1 : Bool} {α : Type} {d : Kd α} {e : Nat} {base : Nat} {ok : Nat → Prop} {v : Value} {xs : List α} (h : q0d w0 W g f0 f1) (ho : d.Q e W base ok v xs) (ht : ∀ q, q ∈ e :: d.E → q ≠ 116) : d.Q e W base (fun k => ok k ∧ k ≠ g) v xs := by
 obtain ⟨A0, c0, hb, hg, hr0⟩ := h
 exact Kd.Q_types ho hb ht
theorem q0d.own_neQ {w0 W : World} {g : Nat} {f0 : List (S43)} {f1 : Bool} {α : Type} {d : Kd α} {e : Nat} {base : Nat} {ok : Nat → Prop} {v : Value} {xs : List α} (h : q0d w0 W g f0 f1) (ho : d.Q e W base ok v xs) (ht : e ≠ 116) : some g ≠ v.ownBlock := by
 obtain ⟨A0, c0, hb, hg, hr0⟩ := h
 exact Kd.Q_ne ho hb ht
theorem q0d.apartS {w0 W : World} {g : Nat} {f0 : List (S43)} {f1 : Bool} {α : Type} {d : Kd α} {e : Nat} {base : Nat} {ok : Nat → Prop} {v : Value} {xs : List α} (h : q0d w0 W g f0 f1) (ho : d.S e W base ok v xs) (ht : ∀ q, q ∈ e :: d.E → q ≠ 116) : d.S e W base (fun k => ok k ∧ k ≠ g) v xs := by
 obtain ⟨A0, c0, hb, hg, hr0⟩ := h
 exact Kd.S_types ho hb ht
theorem q0d.own_neS {w0 W : World} {g : Nat} {f0 : List (S43)} {f1 : Bool} {α : Type} {d : Kd α} {e : Nat} {base : Nat} {ok : Nat → Prop} {v : Value} {xs : List α} (h : q0d w0 W g f0 f1) (ho : d.S e W base ok v xs) (ht : e ≠ 116) : some g ≠ v.ownBlock := by
 obtain ⟨A0, c0, hb, hg, hr0⟩ := h
 exact Kd.S_ne ho hb ht
theorem q0d.lt {w0 W : World} {g : Nat} {f0 : List (S43)} {f1 : Bool} (h : q0d w0 W g f0 f1) : g < W.heap.size := by
 obtain ⟨A0, c0, hb, hg, hr0⟩ := h
 exact q2i hb
theorem q0d.ge {w0 W : World} {g : Nat} {f0 : List (S43)} {f1 : Bool} (h : q0d w0 W g f0 f1) : w0.heap.size ≤ g := by
 obtain ⟨A0, c0, hb, hg, hr0⟩ := h
 exact hg
theorem q0d.ne_blk {w0 W : World} {g : Nat} {f0 : List (S43)} {f1 : Bool} {a : Nat} {cs : Array Value} {t : TypeId} {fr : Nat × Nat} (h : q0d w0 W g f0 f1) (hb2 : W.heap[a]? = some (.cells cs t fr)) (ht : t ≠ 116) : g ≠ a := by
 obtain ⟨A0, c0, hb, hg, hr0⟩ := h
 rintro rfl
 rw [hb] at hb2
 injection hb2 with hb2
 injection hb2 with _ ht2
 exact ht ht2.symm
theorem q0d.far {w0 W : World} {g : Nat} {f0 : List (S43)} {f1 : Bool} {p : Addr} (h : q0d w0 W g f0 f1) (hne : g ≠ p.block) (u : Value) : q0d w0 (W.setCell p u) g f0 f1 := by
 obtain ⟨A0, c0, hb, hg, hr0⟩ := h
 exact ⟨A0, c0, q1q hb hne u, hg, hr0⟩
theorem q2d {W : World} {g : Nat} {A0 : Option Addr} {c0 : Nat} {f0 : List (S43)} {f1 : Bool} (h : W.heap[g]? = some (.cells #[.slice A0 f0.length c0, .bool f1] 116 (0, 0))) : W.cell? ⟨g, 0, none⟩ = some (.slice A0 f0.length c0) := (q02 h 0).trans rfl
theorem q2c {W : World} {g : Nat} {A0 : Option Addr} {c0 : Nat} {f0 : List (S43)} {f1 : Bool} (h : W.heap[g]? = some (.cells #[.slice A0 f0.length c0, .bool f1] 116 (0, 0))) : W.cell? ⟨g, 1, none⟩ = some (.bool f1) := (q02 h 1).trans rfl
theorem q0d.set_1 {w0 W : World} {g : Nat} {f0 : List (S43)} {f1 : Bool} (h : q0d w0 W g f0 f1) (x : Bool) : q0d w0 (W.setCell ⟨g, 1, none⟩ (.bool x)) g f0 x := by
 obtain ⟨A0, c0, hb, hg, hr0⟩ := h
 exact ⟨A0, c0, by simpa using blk_set hb 1 (.bool x), hg, hr0⟩
theorem q0d.new (w0 W : World) (A0 : Option Addr) (c0 : Nat) (f0 : List (S43)) (f1 : Bool) (hB : Below w0.heap.size w0 W) (hr0 : Kd.C k43 w0 A0 f0.length f0) : q0d w0 (W.alloc (.cells #[.slice A0 f0.length c0, .bool f1] 116)) W.heap.size f0 f1 := ⟨A0, c0, by simpa using heap_alloc_new W _, hB.size, hr0⟩
def q0s.l0 : Nat → Int → List Int → List (S43) → Bool → Option (List Int × Bool)
 | 0, _, _, _, _ => none
 | k + 1, x1, x4, x1000, x1001 => if x1 ≥ 0 then (if x4.length < 17592186044416 then (if 0 ≤ x1 then (if x1 < (x1000.length : Int) then (q0s.l0 k ((q05 x1000 x1).f4) (x4 ++ [x1]) x1000 x1001) else (none)) else (none)) else (none)) else ((q0f.f k x4).bind fun t157 => (some (t157, x1001)))
def q0s.f (k : Nat) (s0_0 : List (S43)) (s0_1 : Bool) (a1 : Int) : Option (List Int × Bool) := q0s.l0 k a1 ([] : List Int) s0_0 s0_1
theorem q0s.mono_l : ∀ k, (∀ y0 y1 y2 y3, LeO (q0s.l0 k y0 y1 y2 y3) (q0s.l0 (k + 1) y0 y1 y2 y3))
 | 0 => fun _ _ _ _ r h => by simp [q0s.l0] at h
 | k + 1 => by
  have ih0 := q0s.mono_l k
  ·intro y0 y1 y2 y3
   unfold q0s.l0
   repeat' first
   | (with_reducible exact ih0 _ _ _ _)
   | (with_reducible exact q0f.mono _ _)
   | (with_reducible exact LeO.refl _)
   | (with_reducible exact LeO.none _)
   | (with_reducible refine LeO.ite ?_ ?_)
   | (with_reducible refine LeO.bind ?_ (fun _ => ?_))
   | exact ih0 _ _ _ _
   | exact q0f.mono _ _
   | exact LeO.none _
   | refine LeO.ite ?_ ?_
   | refine LeO.bind ?_ (fun _ => ?_)
theorem q0s.mono : ∀ a0 a1 a2 k, LeO (q0s.f k a0 a1 a2) (q0s.f (k + 1) a0 a1 a2) := by
 intro a0 a1 a2 k
 have ih0 := q0s.mono_l k
 unfold q0s.f
 repeat' first
  | (with_reducible exact ih0 _ _ _ _)
  | (with_reducible exact q0f.mono _ _)
  | (with_reducible exact LeO.refl _)
  | (with_reducible exact LeO.none _)
  | (with_reducible refine LeO.ite ?_ ?_)
  | (with_reducible refine LeO.bind ?_ (fun _ => ?_))
  | exact ih0 _ _ _ _
  | exact q0f.mono _ _
  | exact LeO.none _
  | refine LeO.ite ?_ ?_
  | refine LeO.bind ?_ (fun _ => ?_)
set_option maxHeartbeats 8000000 in
set_option maxRecDepth 100000 in
theorem q0s.calls (k : Nat) (g : Nat) (s0_0 : List (S43)) (s0_1 : Bool) (a1 : Int) (r1 : List Int) (r2 : Bool) (w0 w : World) (hI : q0d w0 w g s0_0 s0_1) (hB : Below w0.heap.size w0 w) (h : q0s.f k s0_0 s0_1 a1 = some (r1, r2)) :
 Calls Tryd.prog 76 #[.pointer (some ⟨g, 0, none⟩), .int .i64 a1] w fun e w' => ∃ v0_ : Value, e = .returned (v0_) ∧ Kd.R (Kd.int .i64) 3 w' w.heap.size (fun _ => True) v0_ r1 ∧ q0d w0 w' g s0_0 r2 ∧ Below w0.heap.size w0 w' ∧ q0u w w' g none := by
 have HI0 := aS hI
 have HK := aS (q0u.refl w g none)
 have HL := aS hB.size
 clear hI
 have HW0 := aS hB.size
 have HB := aS hB
 clear hB
 have H : (q0s.l0 k a1 ([] : List Int) s0_0 s0_1) = some (r1, r2) := h
 clear h
 have H' := aS H
 clear H
 go_enter Tryd.func76, Tryd.ntmps76
 go_wp2
 go_loopg [1, 4] k (fun kq v1 v4 w' => ∃ (x1_1 : Int) (x4_1 : List Int), v1 = .int .i64 x1_1 ∧ Aside0 (q0s.l0 kq x1_1 x4_1 s0_0 s0_1 = some (r1, r2)) ∧ Aside0 (kq ≤ k) ∧ Aside0 (Kd.R (Kd.int .i64) 3 w' w.heap.size (fun _ => True) v4 x4_1) ∧ Aside0 (q0d w0 w' g s0_0 s0_1) ∧ Aside0 (q0u w w' g none) ∧ Aside0 (Below w0.heap.size w0 w'))
 case atStart => exact ⟨(a1), (([] : List Int)), (by first | rfl | (simp; done) | simp [*]), H', ⟨Nat.le_refl _⟩, ⟨by first | exact Kd.R_nil _ _ _ _ _ | exact Kd.N_nil _ _ _ _ _ | exact Kd.V_nil _ _ _ _ _ | exact Kd.Q_nil _ _ _ _ _ | exact Kd.S_nil _ _ _ _ _⟩, ⟨by repeat (first | (with_reducible first | exact HI0.out | apply q0d.alloc | apply q0d.drewN | apply q0d.drew | apply q0d.set_1) | exact HI0.out)⟩, ⟨by repeat (first | (with_reducible first | exact HK.out | apply q0u.set_ | apply q0z | apply q17 | apply q11) | exact HK.out)⟩, ⟨by repeat (first | (with_reducible first | exact HB.out | apply bA | apply bN | apply bD | refine bS ?_ (q0d.ge HI0.out)) | exact HB.out)⟩⟩
 case round =>
  clear H'
  try clear p2
  obtain ⟨x1_1, x4_1, rfl, HA, HK1, HO_4, HI0, HK, HB⟩ := hrel
  cases gk with
  | zero => exact absurd HA.out (by simp [q0s.l0])
  | succ k1 =>
   have H := HA.out
   clear HA
   simp only [q0s.l0] at H
   by_cases c3 : x1_1 ≥ 0
   ·rw [if_pos c3] at H
    have c3b0 : decide (0 ≤ x1_1) = true := decide_eq_true c3
    clear c3
    by_cases c4 : x4_1.length < 17592186044416
    ·rw [if_pos c4] at H
     have LMc4 := aS c4
     clear c4
     obtain ⟨y153, hy153⟩ : ∃ y_ : List Int, y_ = (x4_1 ++ [x1_1]) := ⟨_, rfl⟩
     replace H : (if 0 ≤ x1_1 then (if x1_1 < (s0_0.length : Int) then (q0s.l0 k1 ((q05 s0_0 x1_1).f4) y153 s0_0 s0_1) else (none)) else (none)) = some (r1, r2) := by first | (rw [hy153]; with_reducible exact H) | (have H2_ := (Option.bind_some _ _).symm.trans H; rw [hy153]; with_reducible exact H2_) | (have H2_ := (Option.bind_some _ _).symm.trans H; with_reducible exact H2_) | with_reducible exact H | (rw [hy153]; exact H) | exact H
     have Ny153 := aS hy153
     clear hy153
     by_cases c5 : 0 ≤ x1_1
     ·rw [if_pos c5] at H
      have c5b0 : decide (0 ≤ x1_1) = true := decide_eq_true c5
      clear c5
      by_cases c6 : x1_1 < (s0_0.length : Int)
      ·rw [if_pos c6] at H
       have c6b0 : decide (x1_1 < (s0_0.length : Int)) = true := decide_eq_true c6
       clear c6
       have H' := aS H
       clear H
       go_wp2_with (first | ((with_reducible refine gate_builtin (b := .append) (xs := #[.tmp 16, .tmp 18]) rfl ?_); at_builtin; refine Kd.R_append (Kd.int .i64) w.heap.size rfl (.tmp 16) (.tmp 18) 31 3 (.int .i64 0) 8 rfl Tryd.underlying31 info3 rfl (by decide) (by omega) u4 x4_1 x1_1 [.int .i64 x1_1] (fun _ => True) (fun _ => False) rfl rfl ?aP (fun _ hk => hk.elim) ?aF ?aO (Below.refl _ _) ?aS ?aL ?_; (case aP => exact rfl); (case aF => exact (fun _ _ => trivial)); (case aO => exact (by (with_reducible repeat (first | apply rA | apply rN | apply rD)); exact HO_4.out)); (case aS => exact (keep_size (w := w) (g := g) (row := none) (by repeat (first | (with_reducible first | exact HK.out | apply q0u.set_ | apply q0z | apply q17 | apply q11) | exact HK.out)))); (case aL => have := LMc4.out; omega); intro v154 w7 ho hb hg hat; rw [← Ny153.out] at ho; have n0_ := aS (q0d.grown (by repeat (first | (with_reducible first | exact HI0.out | apply q0d.alloc | apply q0d.drewN | apply q0d.drew | apply q0d.set_1) | exact HI0.out)) hg (q0d.own_ne HI0.out HO_4.out (by decide))); have n1_ := aS (below_weaken (by repeat (first | (with_reducible first | exact HB.out | apply bA | apply bN | apply bD | refine bS ?_ (q0d.ge HI0.out)) | exact HB.out)) HL.out hb); have n2_ := aS (q0u.trans (by repeat (first | (with_reducible first | exact HK.out | apply q0u.set_ | apply q0z | apply q17 | apply q11) | exact HK.out)) (q0u.of_grown hg g) (Kd.R_base2 HO_4.out)); have n3_ := aS (ho); clear HI0; clear HB; clear HK; clear HO_4; have HI0 := n0_; have HB := n1_; have HK := n2_; have HO155 := n3_; clear n0_ n1_ n2_ n3_; clear ho hb hg hat; obtain ⟨ASz8_0, cSz8_0, HGz8, hgz8, HSz8_0⟩ := HI0.out; have hcz8_0 := q2d HGz8; have hcz8_1 := q2c HGz8; have hfz8_1 := q01 HGz8 1; clear HGz8 hgz8; have p156 : 0 ≤ (x1_1 : Int) := od (by first | (with_reducible assumption) | assumption); have q156 : x1_1 < (s0_0.length : Int) := od (by first | (with_reducible assumption) | assumption); obtain ⟨ad156, A156_2, c156_2, A156_5, c156_5, e156, hx156_0, hx156_1, hx156_2, hx156_3, hx156_4, hx156_5, hl156_2, hi156_2, hl156_5, hi156_5⟩ := q1j HSz8_0 x1_1 p156 q156; cases e156; replace hx156_0 := q0e HB.out hx156_0; replace hx156_1 := q0e HB.out hx156_1; replace hx156_2 := q0e HB.out hx156_2; replace hx156_3 := q0e HB.out hx156_3; replace hx156_4 := q0e HB.out hx156_4; replace hx156_5 := q0e HB.out hx156_5; have HR156_2 := aS hi156_2; have HC156_2 := aS hl156_2; clear hi156_2 hl156_2; have HR156_5 := aS hi156_5; have HC156_5 := aS hl156_5; clear hi156_5 hl156_5; replace p156 := eq_true p156; replace q156 := eq_true q156))
       go_roundg k1
       case measure => have := HK1.out; omega
       case rel => exact ⟨((q05 s0_0 x1_1).f4), (y153), (by first | rfl | (simp; done) | simp [*]), H', ⟨by have := HK1.out; omega⟩, ⟨by (with_reducible repeat (first | apply rA | apply rN | apply rD)); exact HO155.out⟩, ⟨by repeat (first | (with_reducible first | exact HI0.out | apply q0d.alloc | apply q0d.drewN | apply q0d.drew | apply q0d.set_1) | exact HI0.out)⟩, ⟨by repeat (first | (with_reducible first | exact HK.out | apply q0u.set_ | apply q0z | apply q17 | apply q11) | exact HK.out)⟩, ⟨by repeat (first | (with_reducible first | exact HB.out | apply bA | apply bN | apply bD | refine bS ?_ (q0d.ge HI0.out)) | exact HB.out)⟩⟩
      ·rw [if_neg c6] at H
       exact absurd H (by simp)
     ·rw [if_neg c5] at H
      exact absurd H (by simp)
    ·rw [if_neg c4] at H
     exact absurd H (by simp)
   ·rw [if_neg c3] at H
    have c3b0 : decide (0 ≤ x1_1) = false := decide_eq_false c3
    clear c3
    replace H := Option.bind_eq_some_iff.mp H
    obtain ⟨t157, A90, H⟩ := H
    replace H : (some (t157, s0_1)) = some (r1, r2) := H
    have A9 := aS A90
    clear A90
    simp only [Option.some.injEq, Prod.mk.injEq] at H
    obtain ⟨rfl, rfl⟩ := H
    obtain ⟨Ao10, co10, eo10⟩ := Kd.R_slice HO_4.out
    subst eo10
    go_wp2_with (first | ((with_reducible refine q0l (f := 111) rfl ?_); refine q1d (some 21) rfl rfl Tryd.func111 (by kernel_rfl) rfl #[.slice Ao10 x4_1.length co10] rfl (by (try simp only [List.map_toArray, List.map_cons, List.map_nil]); first | done | rfl | (simp only [List.length_drop, List.length_take]; rfl)) ?_; (with_reducible refine (q0f.calls k1 (fun k_ => some k_ = (.slice Ao10 x4_1.length co10 : Value).ownBlock) (.slice Ao10 x4_1.length co10) x4_1 t157 w0 _ ?side1 ?side2 A9.out).mono ?_); (case side1 => repeat (first | (with_reducible first | exact HB.out | apply bA | apply bN | apply bD | refine bS ?_ (q0d.ge HI0.out)) | exact HB.out)); (case side2 => exact Kd.R_lower (Kd.R_tight rfl HO_4.out) HL.out); rintro e w11 ⟨rfl, hy0, hb, hkp⟩; refine ⟨_, rfl, ?_⟩; have n0_ := aS (Kd.R_reok rfl (Kd.R_raise (d := (Kd.int .i64)) (b := w0.heap.size) (b' := w.heap.size) (fun _ _ _ _ h_ => h_) hy0 (fun k_ e_ => Or.elim (hy0.1 k_ e_) (fun hs_ => (fun e_ => Kd.R_base HO_4.out k_ e_.symm) hs_) (fun hn_ => Nat.le_trans (keep_size (w := w) (g := g) (row := none) (by repeat (first | (with_reducible first | exact HK.out | apply q0u.set_ | apply q0z | apply q17 | apply q11) | exact HK.out))) hn_))) (fun k_ e_ => HO_4.out.1 k_ e_)); have n1_ := aS (q0d.kept (by repeat (first | (with_reducible first | exact HI0.out | apply q0d.alloc | apply q0d.drewN | apply q0d.drew | apply q0d.set_1) | exact HI0.out)) hkp (fun hs_ => (fun e_ => (q0d.own_ne HI0.out HO_4.out (by decide)) e_) hs_)); have n2_ := aS (Kept.keepG (by repeat (first | (with_reducible first | exact HK.out | apply q0u.set_ | apply q0z | apply q17 | apply q11) | exact HK.out)) hkp (fun k_ hs_ => (fun e_ => .inr (Kd.R_base HO_4.out k_ e_.symm)) hs_)); have n3_ := aS (hb); clear HO_4; clear HI0; clear HK; clear HB; have HO_4 := n0_; have HI0 := n1_; have HK := n2_; have HB := n3_; clear n0_ n1_ n2_ n3_; (try clear hb); (try clear hkp); (try clear hy0)))
    go_ret
    exact ⟨_, by first | rfl | (simp [q0b, q0a] <;> rfl) | (simp [*, q0b, q0a] <;> rfl), by (with_reducible repeat (first | apply rA | apply rN | apply rD)); exact HO_4.out, by repeat (first | (with_reducible first | exact HI0.out | apply q0d.alloc | apply q0d.drewN | apply q0d.drew | apply q0d.set_1) | exact HI0.out), by repeat (first | (with_reducible first | exact HB.out | apply bA | apply bN | apply bD | refine bS ?_ (q0d.ge HI0.out)) | exact HB.out), by repeat (first | (with_reducible first | exact HK.out | apply q0u.set_ | apply q0z | apply q17 | apply q11) | exact HK.out)⟩
def q0g.outR (ns : List S43) : List Int → Bool
 | [] => false
 | n :: t => decide (n < 0) || (decide (n ≥ ns.length) || q0g.outR ns t)
def q0g.offR (k : Nat) (ns : List S43) (q : Bool) : List Int → Option Int
 | [] => some 0
 | n :: t => (q0s.f k ns q n).bind fun r => if 0 < r.1.length ∧ r.2 = q then (if rd r.1 0 = 0 then q0g.offR k ns q t else some 5) else none
def q0g.f (k : Nat) (ns : List S43) (q : Bool) (ll : List Int) : Option Int :=
 (q1a.f k ns q).bind fun e => if e = 0 then (if q0g.outR ns ll = true then some 1 else q0g.offR k ns q ll) else some e
def q0g.left (ll : List Int) : Value → Nat
 | .int _ i => ll.length - i.toNat
 | _ => 0
theorem q0g.blk {W W1 : World} {g : Nat} {o : Obj} (h : W.heap[g]? = some o) (hb : Below W.heap.size W W1) : W1.heap[g]? = some o := (hb.block g (by
 by_cases c : g < W.heap.size
 ·exact c
 ·rw [Array.getElem?_eq_none (by omega)] at h; cases h)).trans h
theorem q0g.dropL (l : List Int) (i : Nat) (h : i < l.length) : l.drop i = rd l (i : Int) :: l.drop (i + 1) := by
 rw [List.drop_eq_getElem_cons h]
 congr 1
 simp [rd, List.getD, h]
set_option maxHeartbeats 8000000 in
set_option maxRecDepth 100000 in
theorem q0g.calls (k : Nat) (A0 : Option Addr) (c0 : Nat) (l0 : List S43) (a1 : Bool) (Al : Option Addr) (cl : Nat) (ll : List Int) (r : Int) (w : World) (hr0 : Kd.C k43 w A0 l0.length l0) (hc0 : l0.length ≤ c0)
 (hrl : Kd.C (Kd.int .i64) w Al ll.length ll) (hcl : ll.length ≤ cl) (hll : ll.length ≤ 4611686018427387904) (h : q0g.f k l0 a1 ll = some r) :
 Calls Tryd.prog 70 #[.agg #[.slice A0 l0.length c0, .bool a1], .slice Al ll.length cl] w fun e w' =>
  Below w.heap.size w w' ∧ ((r ≠ 0 ∧ e = .returned (.tuple #[.pointer none, .int .i64 r])) ∨ (r = 0 ∧ ∃ g, e = .returned (.tuple #[.pointer (some ⟨g, 0, none⟩), .int .i64 0]) ∧ q0d w w' g l0 a1)) := by
 have hu24 := Tryd.underlying24
 have hu116 := Tryd.underlying116
 unfold q0g.f at h
 obtain ⟨e0, he0, h⟩ := Option.bind_eq_some_iff.1 h
 have HE := aS he0
 have HR := aS hr0
 have HC := aS hc0
 have HRl := aS hrl
 have HCl := aS hcl
 have HRL := aS hll
 have HB := aS (Below.refl w.heap.size w)
 clear he0 hr0 hc0 hrl hcl hll
 by_cases z0 : e0 = 0
 ·subst z0
  rw [if_pos rfl] at h
  have H := aS h
  clear h
  go_enter Tryd.func70, Tryd.ntmps70
  go_wp2_with (first
   | ((with_reducible refine q15 (N := 2) rfl ?_); refine q0y ?hg (N := 2) ?hd (cs := #[.slice A0 l0.length c0, .bool a1]) (t := 24) ?hr ?_; (case hd => rfl); (case hg => rfl); (case hr => first | (go_simp; done) | (go_simp; rfl)); intro gb hg wb hbox hb; have n0_ := aS (q09 (by repeat (first | exact HB.out | apply bA | apply bN | apply bD)) hb); have GEgb := aS (by rw [hg]; exact q0k (by repeat (first | exact HB.out | apply bA | apply bN | apply bD)) : w.heap.size ≤ gb); have BK := aS hbox; have hcz0 : wb.cell? ⟨gb, 0, none⟩ = some (.slice A0 l0.length c0) := (q02 BK.out 0).trans rfl; have hcz1 : wb.cell? ⟨gb, 1, none⟩ = some (.bool a1) := (q02 BK.out 1).trans rfl; clear HB; have HB := n0_; clear n0_ hg hbox hb)
   | (go_at_call 52; refine (q1a.calls k A0 c0 l0 a1 0 _ (Kd.C_below HR.out (by repeat (first | exact HB.out | apply bA | apply bN | apply bD))) HC.out HE.out).mono ?_; rintro e w1 ⟨rfl, hb⟩; have n0_ := aS (q09 (by repeat (first | exact HB.out | apply bA | apply bN | apply bD)) hb); clear HB; have HB := n0_; clear n0_; have BKn := aS (q0g.blk BK.out hb); clear BK; have BK := BKn; clear BKn; clear hcz0 hcz1; have hcz0 : w1.cell? ⟨gb, 0, none⟩ = some (.slice A0 l0.length c0) := (q02 BK.out 0).trans rfl; have hcz1 : w1.cell? ⟨gb, 1, none⟩ = some (.bool a1) := (q02 BK.out 1).trans rfl; clear hb)
   | ((with_reducible refine q15 (N := 19) rfl ?_); refine q0y ?hg (N := 19) ?hd (cs := #[.slice A0 l0.length c0, .bool a1]) (t := 116) ?hr ?_; (case hd => rfl); (case hg => rfl); (case hr => first | (go_simp; done) | (go_simp; rfl)); intro g hg wg hbox hb; have n0_ := aS (q09 (by repeat (first | exact HB.out | apply bA | apply bN | apply bD)) hb); have GEg := aS (by rw [hg]; exact q0k (by repeat (first | exact HB.out | apply bA | apply bN | apply bD)) : w.heap.size ≤ g); have BG := aS hbox; have hgz0 : wg.cell? ⟨g, 0, none⟩ = some (.slice A0 l0.length c0) := (q02 BG.out 0).trans rfl; have hgz1 : wg.cell? ⟨g, 1, none⟩ = some (.bool a1) := (q02 BG.out 1).trans rfl; clear HB; have HB := n0_; have BKn := aS (q0g.blk BK.out hb); clear BK; have BK := BKn; clear BKn; clear n0_ hg hbox hb))
  go_loopw [22] (fun v W => ∃ i : Nat, v = .int .i64 (i : Int) ∧ Aside0 (i ≤ ll.length) ∧ Aside0 (q0g.outR l0 (ll.drop i) = q0g.outR l0 ll) ∧ Aside0 (W.heap[gb]? = some (.cells #[.slice A0 l0.length c0, .bool a1] 24 (0, 0))) ∧ Aside0 (W.heap[g]? = some (.cells #[.slice A0 l0.length c0, .bool a1] 116 (0, 0))) ∧ Aside0 (Below w.heap.size w W)) (fun v _ => q0g.left ll v)
  case atStart => exact ⟨0, rfl, ⟨Nat.zero_le _⟩, ⟨by rw [List.drop_zero]⟩, BK, BG, ⟨by repeat (first | exact HB.out | apply bA | apply bN | apply bD)⟩⟩
  case round =>
   clear BK BG HB
   obtain ⟨i, rfl, HI, HO, BK, BG, HB⟩ := hrel
   by_cases ci : i < ll.length
   ·have p1 : 0 ≤ (i : Int) := Int.natCast_nonneg _
    have q1 : (i : Int) < (ll.length : Int) := by omega
    obtain ⟨ad, rfl, hx⟩ := Kd.at_int HRl.out (i : Int) p1 q1
    replace hx := (HB.out.cell (World.block_lt_of_cell? w _ hx)).trans hx
    rw [show ((i : Int)).toNat = i from rfl] at hx
    have hO := HO.out
    rw [q0g.dropL ll i ci] at hO
    have cib : decide ((i : Int) < (ll.length : Int)) = true := decide_eq_true q1
    have cib2 : decide (i < ll.length) = true := decide_eq_true ci
    replace p1 := eq_true p1
    replace q1 := eq_true q1
    have hcz0 := (q02 BK.out 0).trans rfl
    by_cases c1 : rd ll (i : Int) < 0
    ·have hbad : q0g.outR l0 ll = true := by rw [← hO]; simp [q0g.outR, c1]
     have h := H.out
     rw [if_pos hbad] at h
     obtain rfl := Option.some.inj h
     have c1b : decide (rd ll (i : Int) < 0) = true := decide_eq_true c1
     clear hO hbad h c1 ci
     go_wp2
     go_ret2
     exact ⟨by repeat (first | exact HB.out | apply bA | apply bN | apply bD), .inl ⟨by decide, rfl⟩⟩
    ·have c1b : decide (rd ll (i : Int) < 0) = false := decide_eq_false c1
     by_cases c2 : rd ll (i : Int) ≥ (l0.length : Int)
     ·have hbad : q0g.outR l0 ll = true := by rw [← hO]; simp [q0g.outR, c2]
      have h := H.out
      rw [if_pos hbad] at h
      obtain rfl := Option.some.inj h
      have c2b : decide ((l0.length : Int) ≤ rd ll (i : Int)) = true := decide_eq_true c2
      clear hO hbad h c1 c2 ci
      go_wp2
      go_ret2
      exact ⟨by repeat (first | exact HB.out | apply bA | apply bN | apply bD), .inl ⟨by decide, rfl⟩⟩
     ·have c2b : decide ((l0.length : Int) ≤ rd ll (i : Int)) = false := decide_eq_false c2
      have HO1 : Aside0 (q0g.outR l0 (ll.drop (i + 1)) = q0g.outR l0 ll) := ⟨by rw [← hO]; simp [q0g.outR, c1, c2]⟩
      have hw : wrap64 ((i : Int) + 1) = ((i + 1 : Nat) : Int) := by have := HI.out; have := HRL.out; unfold wrap64; omega
      have CI := aS ci
      clear hO c1 c2 ci
      go_wp2
      go_roundw
      case rel => exact ⟨i + 1, by first | rfl | simp [hw], ⟨CI.out⟩, HO1, ⟨by exact BK.out⟩, ⟨by exact BG.out⟩, ⟨by repeat (first | exact HB.out | apply bA | apply bN | apply bD)⟩⟩
      case measure => have := CI.out; simp [q0g.left, hw]; omega
   ·have cib : decide ((i : Int) < (ll.length : Int)) = false := decide_eq_false (by omega)
    have cib2 : decide (i < ll.length) = false := decide_eq_false ci
    have hO := HO.out
    rw [List.drop_eq_nil_of_le (by omega)] at hO
    have h := H.out
    rw [if_neg (by rw [← hO]; exact Bool.false_ne_true)] at h
    have HP0 := aS h
    have HI0 : Aside0 (q0d w wr g l0 a1) := ⟨⟨A0, c0, BG.out, GEg.out, HR.out⟩⟩
    clear ci hO h HO H HI BG BK
    go_wp2
    clear cib cib2
    go_loopw [38] (fun v W => ∃ i : Nat, v = .int .i64 (i : Int) ∧ Aside0 (i ≤ ll.length) ∧ Aside0 (q0g.offR k l0 a1 (ll.drop i) = some r) ∧ Aside0 (q0d w W g l0 a1) ∧ Aside0 (Below w.heap.size w W)) (fun v _ => q0g.left ll v)
    case atStart => exact ⟨0, rfl, ⟨Nat.zero_le _⟩, ⟨by rw [List.drop_zero]; exact HP0.out⟩, ⟨by repeat (first | exact HI0.out | apply q0d.alloc | apply q0d.drewN | apply q0d.drew)⟩, ⟨by repeat (first | exact HB.out | apply bA | apply bN | apply bD)⟩⟩
    case round =>
     clear HI0 HB HP0
     obtain ⟨i, rfl, HI, HP, HI0, HB⟩ := hrel
     by_cases ci : i < ll.length
     ·have p1 : 0 ≤ (i : Int) := Int.natCast_nonneg _
      have q1 : (i : Int) < (ll.length : Int) := by omega
      obtain ⟨ad, rfl, hx⟩ := Kd.at_int HRl.out (i : Int) p1 q1
      replace hx := (HB.out.cell (World.block_lt_of_cell? w _ hx)).trans hx
      rw [show ((i : Int)).toNat = i from rfl] at hx
      have cib : decide ((i : Int) < (ll.length : Int)) = true := decide_eq_true q1
      have cib2 : decide (i < ll.length) = true := decide_eq_true ci
      replace p1 := eq_true p1
      replace q1 := eq_true q1
      have hp := HP.out
      rw [q0g.dropL ll i ci, q0g.offR] at hp
      obtain ⟨⟨pl, pq⟩, hpa, hp⟩ := Option.bind_eq_some_iff.1 hp
      have hw : wrap64 ((i : Int) + 1) = ((i + 1 : Nat) : Int) := by have := HRL.out; unfold wrap64; omega
      have CI := aS ci
      clear ci
      by_cases hc : 0 < pl.length ∧ pq = a1
      ·obtain ⟨hc, rfl⟩ := hc
       rw [if_pos ⟨hc, rfl⟩] at hp
       have HA := aS hpa
       clear hpa
       have p2 : 0 ≤ (0 : Int) := by decide
       have q2 : (0 : Int) < (pl.length : Int) := by omega
       have q2b : 0 < pl.length := hc
       by_cases hz : rd pl 0 = 0
       ·rw [if_pos hz] at hp
        have HP1 := aS hp
        have hzb : (rd pl 0 != 0) = false := bne_eq_false_iff_eq.mpr hz
        clear hp HP hz
        go_wp2_with (go_at_call 76; refine (q0s.calls k g l0 pq (rd ll (i : Int)) pl pq w _ (by repeat (first | exact HI0.out | apply q0d.alloc | apply q0d.drewN | apply q0d.drew)) (by repeat (first | exact HB.out | apply bA | apply bN | apply bD)) HA.out).mono ?_; rintro e w2 ⟨v0, rfl, ho, hI2, hb2, hk⟩; obtain ⟨Ao, co, eo⟩ := Kd.R_slice ho; subst eo; obtain ⟨ad2, e2, hy⟩ := Kd.at_int (Kd.R_reads' ho).2.2 0 p2 q2; subst e2; rw [show ((0 : Int)).toNat = 0 from rfl, show ad2.add 0 = ad2 from rfl] at hy; replace p2 := eq_true p2; replace q2 := eq_true q2; clear HI0 HB; have HI0 := aS hI2; have HB := aS hb2; clear hI2 hb2 hk ho)
        go_roundw
        case rel => exact ⟨i + 1, by first | rfl | simp [hw], ⟨CI.out⟩, HP1, ⟨by repeat (first | exact HI0.out | apply q0d.alloc | apply q0d.drewN | apply q0d.drew)⟩, ⟨by repeat (first | exact HB.out | apply bA | apply bN | apply bD)⟩⟩
        case measure => have := CI.out; simp [q0g.left, hw]; omega
       ·rw [if_neg hz] at hp
        obtain rfl := Option.some.inj hp
        have hzb : (rd pl 0 != 0) = true := bne_iff_ne.mpr hz
        clear hp HP hz
        go_wp2_with (go_at_call 76; refine (q0s.calls k g l0 pq (rd ll (i : Int)) pl pq w _ (by repeat (first | exact HI0.out | apply q0d.alloc | apply q0d.drewN | apply q0d.drew)) (by repeat (first | exact HB.out | apply bA | apply bN | apply bD)) HA.out).mono ?_; rintro e w2 ⟨v0, rfl, ho, hI2, hb2, hk⟩; obtain ⟨Ao, co, eo⟩ := Kd.R_slice ho; subst eo; obtain ⟨ad2, e2, hy⟩ := Kd.at_int (Kd.R_reads' ho).2.2 0 p2 q2; subst e2; rw [show ((0 : Int)).toNat = 0 from rfl, show ad2.add 0 = ad2 from rfl] at hy; replace p2 := eq_true p2; replace q2 := eq_true q2; clear HI0 HB; have HI0 := aS hI2; have HB := aS hb2; clear hI2 hb2 hk ho)
        trace_state
        go_ret2
        exact ⟨by repeat (first | exact HB.out | apply bA | apply bN | apply bD), .inl ⟨by decide, rfl⟩⟩
      ·rw [if_neg hc] at hp
       cases hp
     ·have cib : decide ((i : Int) < (ll.length : Int)) = false := decide_eq_false (by omega)
      have cib2 : decide (i < ll.length) = false := decide_eq_false ci
      have hp := HP.out
      rw [List.drop_eq_nil_of_le (by omega), q0g.offR] at hp
      obtain rfl := Option.some.inj hp
      clear ci hp HP HI
      go_wp2
      go_ret2
      exact ⟨by repeat (first | exact HB.out | apply bA | apply bN | apply bD), by first | exact .inr ⟨rfl, g, rfl, by repeat (first | exact HI0.out | apply q0d.alloc | apply q0d.drewN | apply q0d.drew)⟩ | exact ⟨g, rfl, by repeat (first | exact HI0.out | apply q0d.alloc | apply q0d.drewN | apply q0d.drew)⟩⟩
 ·rw [if_neg z0] at h
  obtain rfl := Option.some.inj h
  have z0b : (e0 != 0) = true := bne_iff_ne.mpr z0
  have Z0 := aS z0
  clear z0 h
  go_enter Tryd.func70, Tryd.ntmps70
  go_wp2_with (first
   | ((with_reducible refine q15 (N := 2) rfl ?_); refine q0y ?hg (N := 2) ?hd (cs := #[.slice A0 l0.length c0, .bool a1]) (t := 24) ?hr ?_; (case hd => rfl); (case hg => rfl); (case hr => first | (go_simp; done) | (go_simp; rfl)); intro gb hg wb hbox hb; have n0_ := aS (q09 (by repeat (first | exact HB.out | apply bA | apply bN | apply bD)) hb); have GEgb := aS (by rw [hg]; exact q0k (by repeat (first | exact HB.out | apply bA | apply bN | apply bD)) : w.heap.size ≤ gb); have BK := aS hbox; have hcz0 : wb.cell? ⟨gb, 0, none⟩ = some (.slice A0 l0.length c0) := (q02 BK.out 0).trans rfl; have hcz1 : wb.cell? ⟨gb, 1, none⟩ = some (.bool a1) := (q02 BK.out 1).trans rfl; clear HB; have HB := n0_; clear n0_ hg hbox hb)
   | (go_at_call 52; refine (q1a.calls k A0 c0 l0 a1 e0 _ (Kd.C_below HR.out (by repeat (first | exact HB.out | apply bA | apply bN | apply bD))) HC.out HE.out).mono ?_; rintro e w1 ⟨rfl, hb⟩; have n0_ := aS (q09 (by repeat (first | exact HB.out | apply bA | apply bN | apply bD)) hb); clear HB; have HB := n0_; clear n0_; clear hb))
  go_ret2
  exact ⟨by repeat (first | exact HB.out | apply bA | apply bN | apply bD), .inl ⟨Z0.out, rfl⟩⟩
theorem Kd_C_nil (W : World) : Kd.C (Kd.int .i64) W none ([] : List Int).length [] := (Kd.R_reads' (Kd.R_nil (Kd.int .i64) 3 W 0 (fun _ => True))).2.2
theorem q0g.calls0 (k : Nat) (A0 : Option Addr) (c0 : Nat) (l0 : List S43) (a1 : Bool) (Al : Option Addr) (cl : Nat) (ll : List Int) (w : World) (hr0 : Kd.C k43 w A0 l0.length l0) (hc0 : l0.length ≤ c0)
 (hrl : Kd.C (Kd.int .i64) w Al ll.length ll) (hcl : ll.length ≤ cl) (hll : ll.length ≤ 4611686018427387904) (h : q0g.f k l0 a1 ll = some 0) :
 Calls Tryd.prog 70 #[.agg #[.slice A0 l0.length c0, .bool a1], .slice Al ll.length cl] w fun e w' => Below w.heap.size w w' ∧ ∃ g, e = .returned (.tuple #[.pointer (some ⟨g, 0, none⟩), .int .i64 0]) ∧ q0d w w' g l0 a1 :=
 (q0g.calls k A0 c0 l0 a1 Al cl ll 0 w hr0 hc0 hrl hcl hll h).mono fun e w' ⟨hb, h1⟩ => ⟨hb, by
  rcases h1 with ⟨h1, _⟩ | ⟨_, h1⟩
  ·exact absurd rfl h1
  ·exact h1⟩
theorem q0g.callsE (k : Nat) (A0 : Option Addr) (c0 : Nat) (l0 : List S43) (a1 : Bool) (Al : Option Addr) (cl : Nat) (ll : List Int) (r : Int) (hr : r ≠ 0) (w : World) (hr0 : Kd.C k43 w A0 l0.length l0) (hc0 : l0.length ≤ c0)
 (hrl : Kd.C (Kd.int .i64) w Al ll.length ll) (hcl : ll.length ≤ cl) (hll : ll.length ≤ 4611686018427387904) (h : q0g.f k l0 a1 ll = some r) :
 Calls Tryd.prog 70 #[.agg #[.slice A0 l0.length c0, .bool a1], .slice Al ll.length cl] w fun e w' => Below w.heap.size w w' ∧ e = .returned (.tuple #[.pointer none, .int .i64 r]) :=
 (q0g.calls k A0 c0 l0 a1 Al cl ll r w hr0 hc0 hrl hcl hll h).mono fun e w' ⟨hb, h1⟩ => ⟨hb, by
  rcases h1 with ⟨_, h1⟩ | ⟨h1, _⟩
  ·exact h1
  ·exact absurd h1 hr⟩
theorem q0g.nil0 (k : Nat) (A0 : Option Addr) (c0 : Nat) (l0 : List S43) (a1 : Bool) (w : World) (hr0 : Kd.C k43 w A0 l0.length l0) (hc0 : l0.length ≤ c0) (h : q0g.f k l0 a1 [] = some 0) :
 Calls Tryd.prog 70 #[.agg #[.slice A0 l0.length c0, .bool a1], .slice none 0 0] w fun e w' => Below w.heap.size w w' ∧ ∃ g, e = .returned (.tuple #[.pointer (some ⟨g, 0, none⟩), .int .i64 0]) ∧ q0d w w' g l0 a1 :=
 q0g.calls0 k A0 c0 l0 a1 none 0 [] w hr0 hc0 (Kd_C_nil w) (by simp) (by simp) h
theorem q0g.nilE (k : Nat) (A0 : Option Addr) (c0 : Nat) (l0 : List S43) (a1 : Bool) (r : Int) (hr : r ≠ 0) (w : World) (hr0 : Kd.C k43 w A0 l0.length l0) (hc0 : l0.length ≤ c0) (h : q0g.f k l0 a1 [] = some r) :
 Calls Tryd.prog 70 #[.agg #[.slice A0 l0.length c0, .bool a1], .slice none 0 0] w fun e w' => Below w.heap.size w w' ∧ e = .returned (.tuple #[.pointer none, .int .i64 r]) :=
 q0g.callsE k A0 c0 l0 a1 none 0 [] r hr w hr0 hc0 (Kd_C_nil w) (by simp) (by simp) h
theorem q0g.offR_mono (k : Nat) (ns : List S43) (q : Bool) : ∀ ll, LeO (q0g.offR k ns q ll) (q0g.offR (k + 1) ns q ll)
 | [] => LeO.refl _
 | n :: t => LeO.bind (q0s.mono ns q n k) fun _ => LeO.ite (LeO.ite (q0g.offR_mono k ns q t) (LeO.refl _)) (LeO.refl _)
theorem q0g.mono (ns : List S43) (q : Bool) (ll : List Int) (k : Nat) : LeO (q0g.f k ns q ll) (q0g.f (k + 1) ns q ll) :=
 LeO.bind (q1a.mono ns q k) fun _ => LeO.ite (LeO.ite (LeO.refl _) (q0g.offR_mono k ns q ll)) (LeO.refl _)
def q0o.l0 : Nat → List Int → Int → Int → Int → Option (Int)
 | 0, _, _, _, _ => none
 | k + 1, x0, x1, x7, x8 => if x8 < x7 then (if 0 ≤ x8 then (if x8 < (x0.length : Int) then (if x1 = (rd x0 x8) then (some x8) else (q0o.l0 k x0 x1 x7 (wrap64 (x8 + 1)))) else (none)) else (none)) else (some (-1))
def q0o.f (k : Nat) (l0 : List Int) (a1 : Int) : Option (Int) := q0o.l0 k l0 a1 (l0.length : Int) 0
theorem q0o.mono_l : ∀ k, (∀ y0 y1 y2 y3, LeO (q0o.l0 k y0 y1 y2 y3) (q0o.l0 (k + 1) y0 y1 y2 y3))
 | 0 => fun _ _ _ _ r h => by simp [q0o.l0] at h
 | k + 1 => by
  have ih0 := q0o.mono_l k
  ·intro y0 y1 y2 y3
   unfold q0o.l0
   repeat' first
   | (with_reducible exact ih0 _ _ _ _)
   | (with_reducible exact LeO.refl _)
   | (with_reducible exact LeO.none _)
   | (with_reducible refine LeO.ite ?_ ?_)
   | (with_reducible refine LeO.bind ?_ (fun _ => ?_))
   | exact ih0 _ _ _ _
   | exact LeO.none _
   | refine LeO.ite ?_ ?_
   | refine LeO.bind ?_ (fun _ => ?_)
theorem q0o.mono : ∀ a0 a1 k, LeO (q0o.f k a0 a1) (q0o.f (k + 1) a0 a1) := by
 intro a0 a1 k
 have ih0 := q0o.mono_l k
 unfold q0o.f
 repeat' first
  | (with_reducible exact ih0 _ _ _ _)
  | (with_reducible exact LeO.refl _)
  | (with_reducible exact LeO.none _)
  | (with_reducible refine LeO.ite ?_ ?_)
  | (with_reducible refine LeO.bind ?_ (fun _ => ?_))
  | exact ih0 _ _ _ _
  | exact LeO.none _
  | refine LeO.ite ?_ ?_
  | refine LeO.bind ?_ (fun _ => ?_)
set_option maxHeartbeats 8000000 in
set_option maxRecDepth 100000 in
theorem q0o.calls (k : Nat) (A0 : Option Addr) (c0 : Nat) (l0 : List Int) (a1 : Int) (r : Int) (w : World) (hr0 : Kd.C (Kd.int .i64) w A0 l0.length l0) (hc0 : l0.length ≤ c0) (h : q0o.f k l0 a1 = some r) :
 Calls Tryd.prog 77 #[.slice A0 l0.length c0, .int .i64 a1] w fun e w' => e = .returned (.int .i64 r) ∧ Drawn0 w w' := by
 have HR0 := aS hr0
 have HC0 := aS hc0
 clear hr0 hc0
 have H : (q0o.l0 k l0 a1 (l0.length : Int) 0) = some r := h
 clear h
 have H' := aS H
 clear H
 go_enter Tryd.func77, Tryd.ntmps77
 go_wp2
 go_loopg [8] k (fun kq v8 w' => ∃ (x8_1 : Int), v8 = .int .i64 x8_1 ∧ Aside0 (q0o.l0 kq l0 a1 (l0.length : Int) x8_1 = some r) ∧ Aside0 (kq ≤ k) ∧ Drawn0 w w')
 case atStart => exact ⟨(0), (by first | rfl | (simp; done) | simp [*]), H', ⟨Nat.le_refl _⟩, by repeat (first | exact Drawn0.refl _ | apply Drawn0.step)⟩
 case round =>
  clear H'
  try clear p2
  obtain ⟨x8_1, rfl, HA, HK1, ⟨m1, rfl⟩⟩ := hrel
  cases gk with
  | zero => exact absurd HA.out (by simp [q0o.l0])
  | succ k1 =>
   have H := HA.out
   clear HA
   simp only [q0o.l0] at H
   by_cases c3 : x8_1 < (l0.length : Int)
   ·rw [if_pos c3] at H
    have c3b0 : decide (x8_1 < (l0.length : Int)) = true := decide_eq_true c3
    clear c3
    by_cases c4 : 0 ≤ x8_1
    ·rw [if_pos c4] at H
     have c4b0 : decide (0 ≤ x8_1) = true := decide_eq_true c4
     clear c4
     by_cases c5 : x8_1 < (l0.length : Int)
     ·rw [if_pos c5] at H
      have c5b0 : decide (x8_1 < (l0.length : Int)) = true := decide_eq_true c5
      clear c5
      by_cases c6 : a1 = (rd l0 x8_1)
      ·rw [if_pos c6] at H
       have c6b0 : (a1 == (rd l0 x8_1)) = true := beq_iff_eq.mpr c6
       have c6b1 : (a1 != (rd l0 x8_1)) = false := bne_eq_false_iff_eq.mpr c6
       clear c6
       obtain rfl := Option.some.inj H
       have p158 : 0 ≤ (x8_1 : Int) := od (by first | (with_reducible assumption) | assumption)
       have q158 : x8_1 < (l0.length : Int) := od (by first | (with_reducible assumption) | assumption)
       obtain ⟨ad158, e158, hx158_0⟩ := Kd.at_int HR0.out x8_1 p158 q158
       cases e158
       replace p158 := eq_true p158
       replace q158 := eq_true q158
       go_wp2
       go_ret
       exact ⟨by first | rfl | (simp; done) | (simp [*]; done), by repeat (first | exact Drawn0.refl _ | apply Drawn0.step)⟩
      ·rw [if_neg c6] at H
       have c6b0 : (a1 == (rd l0 x8_1)) = false := beq_eq_false_iff_ne.mpr c6
       have c6b1 : (a1 != (rd l0 x8_1)) = true := bne_iff_ne.mpr c6
       have H' := aS H
       clear H
       have p158 : 0 ≤ (x8_1 : Int) := od (by first | (with_reducible assumption) | assumption)
       have q158 : x8_1 < (l0.length : Int) := od (by first | (with_reducible assumption) | assumption)
       obtain ⟨ad158, e158, hx158_0⟩ := Kd.at_int HR0.out x8_1 p158 q158
       cases e158
       replace p158 := eq_true p158
       replace q158 := eq_true q158
       go_wp2
       go_roundg k1
       case measure => have := HK1.out; omega
       case rel => exact ⟨(wrap64 (x8_1 + 1)), (by first | rfl | (simp; done) | simp [*]), H', ⟨by have := HK1.out; omega⟩, by repeat (first | exact Drawn0.refl _ | apply Drawn0.step)⟩
     ·rw [if_neg c5] at H
      exact absurd H (by simp)
    ·rw [if_neg c4] at H
     exact absurd H (by simp)
   ·rw [if_neg c3] at H
    have c3b0 : decide (x8_1 < (l0.length : Int)) = false := decide_eq_false c3
    clear c3
    obtain rfl := Option.some.inj H
    go_wp2
    go_ret
    exact ⟨by first | rfl | (simp; done) | (simp [*]; done), by repeat (first | exact Drawn0.refl _ | apply Drawn0.step)⟩
end Go.Proofs.YthjnallbbhnndaaDoor.XWk
namespace Go.Proofs.YthjnallbbhnndaaDoor.XWk
open Go.Proofs.YthjnallbbhnndaaDoor.Short Go.RowKit Go.Proofs.YthjnallbbhnndaaDoorW.PrintWords Go.Proofs.YthjnallbbhnndaaDoorW.PrintLast Go.Proofs.YthjnallbbhnndaaDoorW.PrintMore
attribute [local go_sem] q27 q25 q2l q2k q1w q1v q26 q24   -- for this text's walks alone
set_option linter.unusedVariables false
set_option linter.unusedSimpArgs false
def q0r.f (k : Nat) (s0_0 : List (S43)) (s0_1 : Bool) (a1 : Int) (a2 : Int) : Option (Int × Bool) := if 0 ≤ a1 then (if a1 < (s0_0.length : Int) then (if ((q05 s0_0 a1).f4) < 0 then (some ((-1), s0_1)) else (if 0 ≤ ((q05 s0_0 a1).f4) then (if ((q05 s0_0 a1).f4) < (s0_0.length : Int) then ((q0o.f k ((q05 s0_0 ((q05 s0_0 a1).f4)).f5) a1).bind fun t161 => (if (wrap64 (t161 + a2)) < 0 then (some ((-1), s0_1)) else (if (wrap64 (t161 + a2)) ≥ (((q05 s0_0 ((q05 s0_0 a1).f4)).f5).length : Int) then (some ((-1), s0_1)) else (if 0 ≤ (wrap64 (t161 + a2)) then (if (wrap64 (t161 + a2)) < (((q05 s0_0 ((q05 s0_0 a1).f4)).f5).length : Int) then (some (rd ((q05 s0_0 ((q05 s0_0 a1).f4)).f5) (wrap64 (t161 + a2)), s0_1)) else (none)) else (none))))) else (none)) else (none))) else (none)) else (none)
theorem q0r.mono : ∀ a0 a1 a2 a3 k, LeO (q0r.f k a0 a1 a2 a3) (q0r.f (k + 1) a0 a1 a2 a3) := by
 intro a0 a1 a2 a3 k
 unfold q0r.f
 repeat' first
  | (with_reducible exact q0o.mono _ _ _)
  | (with_reducible exact LeO.refl _)
  | (with_reducible exact LeO.none _)
  | (with_reducible refine LeO.ite ?_ ?_)
  | (with_reducible refine LeO.bind ?_ (fun _ => ?_))
  | exact q0o.mono _ _ _
  | exact LeO.none _
  | refine LeO.ite ?_ ?_
  | refine LeO.bind ?_ (fun _ => ?_)
set_option maxHeartbeats 8000000 in
set_option maxRecDepth 100000 in
theorem q0r.calls (k : Nat) (g : Nat) (s0_0 : List (S43)) (s0_1 : Bool) (a1 : Int) (a2 : Int) (r1 : Int) (r2 : Bool) (w0 w : World) (hI : q0d w0 w g s0_0 s0_1) (hB : Below w0.heap.size w0 w) (h : q0r.f k s0_0 s0_1 a1 a2 = some (r1, r2)) :
 Calls Tryd.prog 119 #[.pointer (some ⟨g, 0, none⟩), .int .i64 a1, .int .i64 a2] w fun e w' => e = .returned (.int .i64 r1) ∧ q0d w0 w' g s0_0 r2 ∧ Below w0.heap.size w0 w' ∧ q0u w w' g none := by
 have HI0 := aS hI
 have HK := aS (q0u.refl w g none)
 have HL := aS hB.size
 clear hI
 have HW0 := aS hB.size
 have HB := aS hB
 clear hB
 have H : (if 0 ≤ a1 then (if a1 < (s0_0.length : Int) then (if ((q05 s0_0 a1).f4) < 0 then (some ((-1), s0_1)) else (if 0 ≤ ((q05 s0_0 a1).f4) then (if ((q05 s0_0 a1).f4) < (s0_0.length : Int) then ((q0o.f k ((q05 s0_0 ((q05 s0_0 a1).f4)).f5) a1).bind fun t161 => (if (wrap64 (t161 + a2)) < 0 then (some ((-1), s0_1)) else (if (wrap64 (t161 + a2)) ≥ (((q05 s0_0 ((q05 s0_0 a1).f4)).f5).length : Int) then (some ((-1), s0_1)) else (if 0 ≤ (wrap64 (t161 + a2)) then (if (wrap64 (t161 + a2)) < (((q05 s0_0 ((q05 s0_0 a1).f4)).f5).length : Int) then (some (rd ((q05 s0_0 ((q05 s0_0 a1).f4)).f5) (wrap64 (t161 + a2)), s0_1)) else (none)) else (none))))) else (none)) else (none))) else (none)) else (none)) = some (r1, r2) := h
 clear h
 by_cases c4 : 0 ≤ a1
 ·rw [if_pos c4] at H
  have c4b0 : decide (0 ≤ a1) = true := decide_eq_true c4
  clear c4
  by_cases c5 : a1 < (s0_0.length : Int)
  ·rw [if_pos c5] at H
   have c5b0 : decide (a1 < (s0_0.length : Int)) = true := decide_eq_true c5
   clear c5
   by_cases c6 : ((q05 s0_0 a1).f4) < 0
   ·rw [if_pos c6] at H
    have c6b0 : decide (((q05 s0_0 a1).f4) < 0) = true := decide_eq_true c6
    clear c6
    simp only [Option.some.injEq, Prod.mk.injEq] at H
    obtain ⟨rfl, rfl⟩ := H
    obtain ⟨ASz7_0, cSz7_0, HGz7, hgz7, HSz7_0⟩ := HI0.out
    have hcz7_0 := q2d HGz7
    have hcz7_1 := q2c HGz7
    have hfz7_1 := q01 HGz7 1
    clear HGz7 hgz7
    have p159 : 0 ≤ (a1 : Int) := od (by first | (with_reducible assumption) | assumption)
    have q159 : a1 < (s0_0.length : Int) := od (by first | (with_reducible assumption) | assumption)
    obtain ⟨ad159, A159_2, c159_2, A159_5, c159_5, e159, hx159_0, hx159_1, hx159_2, hx159_3, hx159_4, hx159_5, hl159_2, hi159_2, hl159_5, hi159_5⟩ := q1j HSz7_0 a1 p159 q159
    cases e159
    replace hx159_0 := q0e HB.out hx159_0
    replace hx159_1 := q0e HB.out hx159_1
    replace hx159_2 := q0e HB.out hx159_2
    replace hx159_3 := q0e HB.out hx159_3
    replace hx159_4 := q0e HB.out hx159_4
    replace hx159_5 := q0e HB.out hx159_5
    have HR159_2 := aS hi159_2
    have HC159_2 := aS hl159_2
    clear hi159_2 hl159_2
    have HR159_5 := aS hi159_5
    have HC159_5 := aS hl159_5
    clear hi159_5 hl159_5
    replace p159 := eq_true p159
    replace q159 := eq_true q159
    go_enter Tryd.func119, Tryd.ntmps119
    go_wp2
    go_ret
    exact ⟨by first | rfl | (simp [q0b, q0a] <;> rfl) | (simp [*, q0b, q0a] <;> rfl), by repeat (first | (with_reducible first | exact HI0.out | apply q0d.alloc | apply q0d.drewN | apply q0d.drew | apply q0d.set_1) | exact HI0.out), by repeat (first | (with_reducible first | exact HB.out | apply bA | apply bN | apply bD | refine bS ?_ (q0d.ge HI0.out)) | exact HB.out), by repeat (first | (with_reducible first | exact HK.out | apply q0u.set_ | apply q0z | apply q17 | apply q11) | exact HK.out)⟩
   ·rw [if_neg c6] at H
    have c6b0 : decide (((q05 s0_0 a1).f4) < 0) = false := decide_eq_false c6
    clear c6
    by_cases c8 : 0 ≤ ((q05 s0_0 a1).f4)
    ·rw [if_pos c8] at H
     have c8b0 : decide (0 ≤ ((q05 s0_0 a1).f4)) = true := decide_eq_true c8
     clear c8
     by_cases c9 : ((q05 s0_0 a1).f4) < (s0_0.length : Int)
     ·rw [if_pos c9] at H
      have c9b0 : decide (((q05 s0_0 a1).f4) < (s0_0.length : Int)) = true := decide_eq_true c9
      clear c9
      replace H := Option.bind_eq_some_iff.mp H
      obtain ⟨t161, A100, H⟩ := H
      replace H : (if (wrap64 (t161 + a2)) < 0 then (some ((-1), s0_1)) else (if (wrap64 (t161 + a2)) ≥ (((q05 s0_0 ((q05 s0_0 a1).f4)).f5).length : Int) then (some ((-1), s0_1)) else (if 0 ≤ (wrap64 (t161 + a2)) then (if (wrap64 (t161 + a2)) < (((q05 s0_0 ((q05 s0_0 a1).f4)).f5).length : Int) then (some (rd ((q05 s0_0 ((q05 s0_0 a1).f4)).f5) (wrap64 (t161 + a2)), s0_1)) else (none)) else (none)))) = some (r1, r2) := H
      have A10 := aS A100
      clear A100
      by_cases c11 : (wrap64 (t161 + a2)) < 0
      ·rw [if_pos c11] at H
       have c11b0 : decide ((wrap64 (t161 + a2)) < 0) = true := decide_eq_true c11
       clear c11
       simp only [Option.some.injEq, Prod.mk.injEq] at H
       obtain ⟨rfl, rfl⟩ := H
       obtain ⟨ASz12_0, cSz12_0, HGz12, hgz12, HSz12_0⟩ := HI0.out
       have hcz12_0 := q2d HGz12
       have hcz12_1 := q2c HGz12
       have hfz12_1 := q01 HGz12 1
       clear HGz12 hgz12
       have p159 : 0 ≤ (a1 : Int) := od (by first | (with_reducible assumption) | assumption)
       have q159 : a1 < (s0_0.length : Int) := od (by first | (with_reducible assumption) | assumption)
       obtain ⟨ad159, A159_2, c159_2, A159_5, c159_5, e159, hx159_0, hx159_1, hx159_2, hx159_3, hx159_4, hx159_5, hl159_2, hi159_2, hl159_5, hi159_5⟩ := q1j HSz12_0 a1 p159 q159
       cases e159
       replace hx159_0 := q0e HB.out hx159_0
       replace hx159_1 := q0e HB.out hx159_1
       replace hx159_2 := q0e HB.out hx159_2
       replace hx159_3 := q0e HB.out hx159_3
       replace hx159_4 := q0e HB.out hx159_4
       replace hx159_5 := q0e HB.out hx159_5
       have HR159_2 := aS hi159_2
       have HC159_2 := aS hl159_2
       clear hi159_2 hl159_2
       have HR159_5 := aS hi159_5
       have HC159_5 := aS hl159_5
       clear hi159_5 hl159_5
       replace p159 := eq_true p159
       replace q159 := eq_true q159
       have p160 : 0 ≤ (((q05 s0_0 a1).f4) : Int) := od (by first | (with_reducible assumption) | assumption)
       have q160 : ((q05 s0_0 a1).f4) < (s0_0.length : Int) := od (by first | (with_reducible assumption) | assumption)
       obtain ⟨ad160, A160_2, c160_2, A160_5, c160_5, e160, hx160_0, hx160_1, hx160_2, hx160_3, hx160_4, hx160_5, hl160_2, hi160_2, hl160_5, hi160_5⟩ := q1j HSz12_0 ((q05 s0_0 a1).f4) p160 q160
       obtain rfl : ad159 = ad160 := (by injection e160)
       replace hx160_0 := q0e HB.out hx160_0
       replace hx160_1 := q0e HB.out hx160_1
       replace hx160_2 := q0e HB.out hx160_2
       replace hx160_3 := q0e HB.out hx160_3
       replace hx160_4 := q0e HB.out hx160_4
       replace hx160_5 := q0e HB.out hx160_5
       have HR160_2 := aS hi160_2
       have HC160_2 := aS hl160_2
       clear hi160_2 hl160_2
       have HR160_5 := aS hi160_5
       have HC160_5 := aS hl160_5
       clear hi160_5 hl160_5
       replace p160 := eq_true p160
       replace q160 := eq_true q160
       go_enter Tryd.func119, Tryd.ntmps119
       go_wp2_with (first | ((with_reducible refine q0l (f := 77) rfl ?_); refine q1d (some 32) rfl rfl Tryd.func77 (by kernel_rfl) rfl #[.slice A160_5 ((q05 s0_0 ((q05 s0_0 a1).f4)).f5).length c160_5, .int .i64 a1] rfl (by (try simp only [List.map_toArray, List.map_cons, List.map_nil]); first | done | rfl | (simp only [List.length_drop, List.length_take]; rfl)) ?_; (with_reducible refine (q0o.calls k _ _ ((q05 s0_0 ((q05 s0_0 a1).f4)).f5) a1 t161 _ ?side1 ?side2 A10.out).mono ?_); (case side1 => exact (Kd.C_below HR160_5.out (by repeat (first | (with_reducible first | exact HB.out | apply bA | apply bN | apply bD) | exact HB.out)))); (case side2 => exact HC160_5.out); rintro e w' ⟨rfl, ⟨nd, rfl⟩⟩; refine ⟨_, rfl, ?_⟩))
       go_ret
       exact ⟨by first | rfl | (simp [q0b, q0a] <;> rfl) | (simp [*, q0b, q0a] <;> rfl), by repeat (first | (with_reducible first | exact HI0.out | apply q0d.alloc | apply q0d.drewN | apply q0d.drew | apply q0d.set_1) | exact HI0.out), by repeat (first | (with_reducible first | exact HB.out | apply bA | apply bN | apply bD | refine bS ?_ (q0d.ge HI0.out)) | exact HB.out), by repeat (first | (with_reducible first | exact HK.out | apply q0u.set_ | apply q0z | apply q17 | apply q11) | exact HK.out)⟩
      ·rw [if_neg c11] at H
       have c11b0 : decide ((wrap64 (t161 + a2)) < 0) = false := decide_eq_false c11
       clear c11
       by_cases c13 : (wrap64 (t161 + a2)) ≥ (((q05 s0_0 ((q05 s0_0 a1).f4)).f5).length : Int)
       ·rw [if_pos c13] at H
        have c13b0 : decide ((((q05 s0_0 ((q05 s0_0 a1).f4)).f5).length : Int) ≤ (wrap64 (t161 + a2))) = true := decide_eq_true c13
        clear c13
        simp only [Option.some.injEq, Prod.mk.injEq] at H
        obtain ⟨rfl, rfl⟩ := H
        obtain ⟨ASz14_0, cSz14_0, HGz14, hgz14, HSz14_0⟩ := HI0.out
        have hcz14_0 := q2d HGz14
        have hcz14_1 := q2c HGz14
        have hfz14_1 := q01 HGz14 1
        clear HGz14 hgz14
        have p159 : 0 ≤ (a1 : Int) := od (by first | (with_reducible assumption) | assumption)
        have q159 : a1 < (s0_0.length : Int) := od (by first | (with_reducible assumption) | assumption)
        obtain ⟨ad159, A159_2, c159_2, A159_5, c159_5, e159, hx159_0, hx159_1, hx159_2, hx159_3, hx159_4, hx159_5, hl159_2, hi159_2, hl159_5, hi159_5⟩ := q1j HSz14_0 a1 p159 q159
        cases e159
        replace hx159_0 := q0e HB.out hx159_0
        replace hx159_1 := q0e HB.out hx159_1
        replace hx159_2 := q0e HB.out hx159_2
        replace hx159_3 := q0e HB.out hx159_3
        replace hx159_4 := q0e HB.out hx159_4
        replace hx159_5 := q0e HB.out hx159_5
        have HR159_2 := aS hi159_2
        have HC159_2 := aS hl159_2
        clear hi159_2 hl159_2
        have HR159_5 := aS hi159_5
        have HC159_5 := aS hl159_5
        clear hi159_5 hl159_5
        replace p159 := eq_true p159
        replace q159 := eq_true q159
        have p160 : 0 ≤ (((q05 s0_0 a1).f4) : Int) := od (by first | (with_reducible assumption) | assumption)
        have q160 : ((q05 s0_0 a1).f4) < (s0_0.length : Int) := od (by first | (with_reducible assumption) | assumption)
        obtain ⟨ad160, A160_2, c160_2, A160_5, c160_5, e160, hx160_0, hx160_1, hx160_2, hx160_3, hx160_4, hx160_5, hl160_2, hi160_2, hl160_5, hi160_5⟩ := q1j HSz14_0 ((q05 s0_0 a1).f4) p160 q160
        obtain rfl : ad159 = ad160 := (by injection e160)
        replace hx160_0 := q0e HB.out hx160_0
        replace hx160_1 := q0e HB.out hx160_1
        replace hx160_2 := q0e HB.out hx160_2
        replace hx160_3 := q0e HB.out hx160_3
        replace hx160_4 := q0e HB.out hx160_4
        replace hx160_5 := q0e HB.out hx160_5
        have HR160_2 := aS hi160_2
        have HC160_2 := aS hl160_2
        clear hi160_2 hl160_2
        have HR160_5 := aS hi160_5
        have HC160_5 := aS hl160_5
        clear hi160_5 hl160_5
        replace p160 := eq_true p160
        replace q160 := eq_true q160
        go_enter Tryd.func119, Tryd.ntmps119
        go_wp2_with (first | ((with_reducible refine q0l (f := 77) rfl ?_); refine q1d (some 32) rfl rfl Tryd.func77 (by kernel_rfl) rfl #[.slice A160_5 ((q05 s0_0 ((q05 s0_0 a1).f4)).f5).length c160_5, .int .i64 a1] rfl (by (try simp only [List.map_toArray, List.map_cons, List.map_nil]); first | done | rfl | (simp only [List.length_drop, List.length_take]; rfl)) ?_; (with_reducible refine (q0o.calls k _ _ ((q05 s0_0 ((q05 s0_0 a1).f4)).f5) a1 t161 _ ?side1 ?side2 A10.out).mono ?_); (case side1 => exact (Kd.C_below HR160_5.out (by repeat (first | (with_reducible first | exact HB.out | apply bA | apply bN | apply bD) | exact HB.out)))); (case side2 => exact HC160_5.out); rintro e w' ⟨rfl, ⟨nd, rfl⟩⟩; refine ⟨_, rfl, ?_⟩))
        go_ret
        exact ⟨by first | rfl | (simp [q0b, q0a] <;> rfl) | (simp [*, q0b, q0a] <;> rfl), by repeat (first | (with_reducible first | exact HI0.out | apply q0d.alloc | apply q0d.drewN | apply q0d.drew | apply q0d.set_1) | exact HI0.out), by repeat (first | (with_reducible first | exact HB.out | apply bA | apply bN | apply bD | refine bS ?_ (q0d.ge HI0.out)) | exact HB.out), by repeat (first | (with_reducible first | exact HK.out | apply q0u.set_ | apply q0z | apply q17 | apply q11) | exact HK.out)⟩
       ·rw [if_neg c13] at H
        have c13b0 : decide ((((q05 s0_0 ((q05 s0_0 a1).f4)).f5).length : Int) ≤ (wrap64 (t161 + a2))) = false := decide_eq_false c13
        clear c13
        obtain ⟨ji15, hji15⟩ : ∃ j_ : Int, (wrap64 (t161 + a2)) = j_ := ⟨_, rfl⟩
        replace H : (if 0 ≤ (ji15) then (if (ji15) < (((q05 s0_0 ((q05 s0_0 a1).f4)).f5).length : Int) then (some (rd ((q05 s0_0 ((q05 s0_0 a1).f4)).f5) (ji15), s0_1)) else (none)) else (none)) = some (r1, r2) := by first | (rw [hji15] at H; exact H) | (simp only [hji15] at H ⊢; exact H)
        (try rw [hji15] at c11b0)
        (try rw [hji15] at c13b0)
        (try rw [hji15] at A10)
        have hji15w : (IntKind.i64.wrap (t161 + a2)) = ji15 := (q1e _).trans hji15
        by_cases c16 : 0 ≤ (ji15)
        ·rw [if_pos c16] at H
         have c16b0 : decide (0 ≤ (ji15)) = true := decide_eq_true c16
         clear c16
         by_cases c17 : (ji15) < (((q05 s0_0 ((q05 s0_0 a1).f4)).f5).length : Int)
         ·rw [if_pos c17] at H
          have c17b0 : decide ((ji15) < (((q05 s0_0 ((q05 s0_0 a1).f4)).f5).length : Int)) = true := decide_eq_true c17
          clear c17
          simp only [Option.some.injEq, Prod.mk.injEq] at H
          obtain ⟨rfl, rfl⟩ := H
          obtain ⟨ASz18_0, cSz18_0, HGz18, hgz18, HSz18_0⟩ := HI0.out
          have hcz18_0 := q2d HGz18
          have hcz18_1 := q2c HGz18
          have hfz18_1 := q01 HGz18 1
          clear HGz18 hgz18
          have p159 : 0 ≤ (a1 : Int) := od (by first | (with_reducible assumption) | assumption)
          have q159 : a1 < (s0_0.length : Int) := od (by first | (with_reducible assumption) | assumption)
          obtain ⟨ad159, A159_2, c159_2, A159_5, c159_5, e159, hx159_0, hx159_1, hx159_2, hx159_3, hx159_4, hx159_5, hl159_2, hi159_2, hl159_5, hi159_5⟩ := q1j HSz18_0 a1 p159 q159
          cases e159
          replace hx159_0 := q0e HB.out hx159_0
          replace hx159_1 := q0e HB.out hx159_1
          replace hx159_2 := q0e HB.out hx159_2
          replace hx159_3 := q0e HB.out hx159_3
          replace hx159_4 := q0e HB.out hx159_4
          replace hx159_5 := q0e HB.out hx159_5
          have HR159_2 := aS hi159_2
          have HC159_2 := aS hl159_2
          clear hi159_2 hl159_2
          have HR159_5 := aS hi159_5
          have HC159_5 := aS hl159_5
          clear hi159_5 hl159_5
          replace p159 := eq_true p159
          replace q159 := eq_true q159
          have p160 : 0 ≤ (((q05 s0_0 a1).f4) : Int) := od (by first | (with_reducible assumption) | assumption)
          have q160 : ((q05 s0_0 a1).f4) < (s0_0.length : Int) := od (by first | (with_reducible assumption) | assumption)
          obtain ⟨ad160, A160_2, c160_2, A160_5, c160_5, e160, hx160_0, hx160_1, hx160_2, hx160_3, hx160_4, hx160_5, hl160_2, hi160_2, hl160_5, hi160_5⟩ := q1j HSz18_0 ((q05 s0_0 a1).f4) p160 q160
          obtain rfl : ad159 = ad160 := (by injection e160)
          replace hx160_0 := q0e HB.out hx160_0
          replace hx160_1 := q0e HB.out hx160_1
          replace hx160_2 := q0e HB.out hx160_2
          replace hx160_3 := q0e HB.out hx160_3
          replace hx160_4 := q0e HB.out hx160_4
          replace hx160_5 := q0e HB.out hx160_5
          have HR160_2 := aS hi160_2
          have HC160_2 := aS hl160_2
          clear hi160_2 hl160_2
          have HR160_5 := aS hi160_5
          have HC160_5 := aS hl160_5
          clear hi160_5 hl160_5
          replace p160 := eq_true p160
          replace q160 := eq_true q160
          go_enter Tryd.func119, Tryd.ntmps119
          go_wp2_with (first | ((with_reducible refine q0l (f := 77) rfl ?_); refine q1d (some 32) rfl rfl Tryd.func77 (by kernel_rfl) rfl #[.slice A160_5 ((q05 s0_0 ((q05 s0_0 a1).f4)).f5).length c160_5, .int .i64 a1] rfl (by (try simp only [List.map_toArray, List.map_cons, List.map_nil]); first | done | rfl | (simp only [List.length_drop, List.length_take]; rfl)) ?_; (with_reducible refine (q0o.calls k _ _ ((q05 s0_0 ((q05 s0_0 a1).f4)).f5) a1 t161 _ ?side1 ?side2 A10.out).mono ?_); (case side1 => exact (Kd.C_below HR160_5.out (by repeat (first | (with_reducible first | exact HB.out | apply bA | apply bN | apply bD) | exact HB.out)))); (case side2 => exact HC160_5.out); rintro e w' ⟨rfl, ⟨nd, rfl⟩⟩; refine ⟨_, rfl, ?_⟩; have p162 : 0 ≤ ((ji15) : Int) := od (by first | (with_reducible assumption) | assumption); have q162 : (ji15) < (((q05 s0_0 ((q05 s0_0 a1).f4)).f5).length : Int) := od (by first | (with_reducible assumption) | assumption); obtain ⟨ad162, e162, hx162_0⟩ := Kd.at_int HR160_5.out (ji15) p162 q162; cases e162; replace hx162_0 := q0e HB.out hx162_0; replace p162 := eq_true p162; replace q162 := eq_true q162))
          go_ret
          exact ⟨by first | rfl | (simp [q0b, q0a] <;> rfl) | (simp only [← hji15]; first | rfl | (simp [q0b, q0a] <;> rfl)) | (simp [*, q0b, q0a] <;> rfl), by repeat (first | (with_reducible first | exact HI0.out | apply q0d.alloc | apply q0d.drewN | apply q0d.drew | apply q0d.set_1) | exact HI0.out), by repeat (first | (with_reducible first | exact HB.out | apply bA | apply bN | apply bD | refine bS ?_ (q0d.ge HI0.out)) | exact HB.out), by repeat (first | (with_reducible first | exact HK.out | apply q0u.set_ | apply q0z | apply q17 | apply q11) | exact HK.out)⟩
         ·rw [if_neg c17] at H
          exact absurd H (by simp)
        ·rw [if_neg c16] at H
         exact absurd H (by simp)
     ·rw [if_neg c9] at H
      exact absurd H (by simp)
    ·rw [if_neg c8] at H
     exact absurd H (by simp)
  ·rw [if_neg c5] at H
   exact absurd H (by simp)
 ·rw [if_neg c4] at H
  exact absurd H (by simp)
def q0q.l0 : Nat → Int → List (S43) → Bool → Option (Int × Bool)
 | 0, _, _, _ => none
 | k + 1, x1, x1000, x1001 => if x1 ≥ 0 then ((q0r.f k x1000 x1001 x1 1).bind fun bt163 => (if bt163.1 ≥ 0 then (some (bt163.1, bt163.2)) else (if 0 ≤ x1 then (if x1 < (x1000.length : Int) then (q0q.l0 k ((q05 x1000 x1).f4) x1000 bt163.2) else (none)) else (none)))) else (some ((-1), x1001))
def q0q.f (k : Nat) (s0_0 : List (S43)) (s0_1 : Bool) (a1 : Int) : Option (Int × Bool) := q0q.l0 k a1 s0_0 s0_1
theorem q0q.mono_l : ∀ k, (∀ y0 y1 y2, LeO (q0q.l0 k y0 y1 y2) (q0q.l0 (k + 1) y0 y1 y2))
 | 0 => fun _ _ _ r h => by simp [q0q.l0] at h
 | k + 1 => by
  have ih0 := q0q.mono_l k
  ·intro y0 y1 y2
   unfold q0q.l0
   repeat' first
   | (with_reducible exact ih0 _ _ _)
   | (with_reducible exact q0r.mono _ _ _ _ _)
   | (with_reducible exact LeO.refl _)
   | (with_reducible exact LeO.none _)
   | (with_reducible refine LeO.ite ?_ ?_)
   | (with_reducible refine LeO.bind ?_ (fun _ => ?_))
   | exact ih0 _ _ _
   | exact q0r.mono _ _ _ _ _
   | exact LeO.none _
   | refine LeO.ite ?_ ?_
   | refine LeO.bind ?_ (fun _ => ?_)
theorem q0q.mono : ∀ a0 a1 a2 k, LeO (q0q.f k a0 a1 a2) (q0q.f (k + 1) a0 a1 a2) := by
 intro a0 a1 a2 k
 have ih0 := q0q.mono_l k
 unfold q0q.f
 repeat' first
  | (with_reducible exact ih0 _ _ _)
  | (with_reducible exact q0r.mono _ _ _ _ _)
  | (with_reducible exact LeO.refl _)
  | (with_reducible exact LeO.none _)
  | (with_reducible refine LeO.ite ?_ ?_)
  | (with_reducible refine LeO.bind ?_ (fun _ => ?_))
  | exact ih0 _ _ _
  | exact q0r.mono _ _ _ _ _
  | exact LeO.none _
  | refine LeO.ite ?_ ?_
  | refine LeO.bind ?_ (fun _ => ?_)
set_option maxHeartbeats 8000000 in
set_option maxRecDepth 100000 in
theorem q0q.calls (k : Nat) (g : Nat) (s0_0 : List (S43)) (s0_1 : Bool) (a1 : Int) (r1 : Int) (r2 : Bool) (w0 w : World) (hI : q0d w0 w g s0_0 s0_1) (hB : Below w0.heap.size w0 w) (h : q0q.f k s0_0 s0_1 a1 = some (r1, r2)) :
 Calls Tryd.prog 117 #[.pointer (some ⟨g, 0, none⟩), .int .i64 a1] w fun e w' => e = .returned (.int .i64 r1) ∧ q0d w0 w' g s0_0 r2 ∧ Below w0.heap.size w0 w' ∧ q0u w w' g none := by
 have HI0 := aS hI
 have HK := aS (q0u.refl w g none)
 have HL := aS hB.size
 clear hI
 have HW0 := aS hB.size
 have HB := aS hB
 clear hB
 have H : (q0q.l0 k a1 s0_0 s0_1) = some (r1, r2) := h
 clear h
 have H' := aS H
 clear H
 go_enter Tryd.func117, Tryd.ntmps117
 go_wp2
 go_loopg [1] k (fun kq v1 w' => ∃ (x1_1 : Int) (x1001_1 : Bool), v1 = .int .i64 x1_1 ∧ Aside0 (q0q.l0 kq x1_1 s0_0 x1001_1 = some (r1, r2)) ∧ Aside0 (kq ≤ k) ∧ Aside0 (q0d w0 w' g s0_0 x1001_1) ∧ Aside0 (q0u w w' g none) ∧ Aside0 (Below w0.heap.size w0 w'))
 case atStart => exact ⟨(a1), (s0_1), (by first | rfl | (simp; done) | simp [*]), H', ⟨Nat.le_refl _⟩, ⟨by repeat (first | (with_reducible first | exact HI0.out | apply q0d.alloc | apply q0d.drewN | apply q0d.drew | apply q0d.set_1) | exact HI0.out)⟩, ⟨by repeat (first | (with_reducible first | exact HK.out | apply q0u.set_ | apply q0z | apply q17 | apply q11) | exact HK.out)⟩, ⟨by repeat (first | (with_reducible first | exact HB.out | apply bA | apply bN | apply bD | refine bS ?_ (q0d.ge HI0.out)) | exact HB.out)⟩⟩
 case round =>
  clear H'
  try clear c1
  try clear p2
  obtain ⟨x1_1, x1001_1, rfl, HA, HK1, HI0, HK, HB⟩ := hrel
  cases gk with
  | zero => exact absurd HA.out (by simp [q0q.l0])
  | succ k1 =>
   have H := HA.out
   clear HA
   simp only [q0q.l0] at H
   by_cases c3 : x1_1 ≥ 0
   ·rw [if_pos c3] at H
    have c3b0 : decide (0 ≤ x1_1) = true := decide_eq_true c3
    clear c3
    replace H := Option.bind_eq_some_iff.mp H
    obtain ⟨⟨t163, t164⟩, A40, H⟩ := H
    replace H : (if t163 ≥ 0 then (some (t163, t164)) else (if 0 ≤ x1_1 then (if x1_1 < (s0_0.length : Int) then (q0q.l0 k1 ((q05 s0_0 x1_1).f4) s0_0 t164) else (none)) else (none))) = some (r1, r2) := H
    have A4 := aS A40
    clear A40
    by_cases c5 : t163 ≥ 0
    ·rw [if_pos c5] at H
     have c5b0 : decide (0 ≤ t163) = true := decide_eq_true c5
     clear c5
     simp only [Option.some.injEq, Prod.mk.injEq] at H
     obtain ⟨rfl, rfl⟩ := H
     go_wp2_with (first | ((with_reducible refine q0l (f := 119) rfl ?_); refine q1d (some 19) rfl rfl Tryd.func119 (by kernel_rfl) rfl #[.pointer (some ⟨g, 0, none⟩), .int .i64 x1_1, .int .i64 1] rfl (by (try simp only [List.map_toArray, List.map_cons, List.map_nil]); first | done | rfl | (simp only [List.length_drop, List.length_take]; rfl)) ?_; (with_reducible refine (q0r.calls k1 g s0_0 x1001_1 x1_1 1 t163 t164 w0 _ ?side1 ?side2 A4.out).mono ?_); (case side1 => repeat (first | (with_reducible first | exact HI0.out | apply q0d.alloc | apply q0d.drewN | apply q0d.drew | apply q0d.set_1) | exact HI0.out)); (case side2 => repeat (first | (with_reducible first | exact HB.out | apply bA | apply bN | apply bD | refine bS ?_ (q0d.ge HI0.out)) | exact HB.out)); rintro e w6 ⟨rfl, hi, hb, hk⟩; refine ⟨_, rfl, ?_⟩; have n0_ := aS (q0u.trans (by repeat (first | (with_reducible first | exact HK.out | apply q0u.set_ | apply q0z | apply q17 | apply q11) | exact HK.out)) hk (.inl rfl)); have n1_ := aS (hb); have n2_ := aS (hi); clear HK; clear HB; clear HI0; have HK := n0_; have HB := n1_; have HI0 := n2_; clear n0_ n1_ n2_; (try clear hb); (try clear hb2); (try clear hk); (try clear hi)))
     go_ret
     exact ⟨by first | rfl | (simp [q0b, q0a] <;> rfl) | (simp [*, q0b, q0a] <;> rfl), by repeat (first | (with_reducible first | exact HI0.out | apply q0d.alloc | apply q0d.drewN | apply q0d.drew | apply q0d.set_1) | exact HI0.out), by repeat (first | (with_reducible first | exact HB.out | apply bA | apply bN | apply bD | refine bS ?_ (q0d.ge HI0.out)) | exact HB.out), by repeat (first | (with_reducible first | exact HK.out | apply q0u.set_ | apply q0z | apply q17 | apply q11) | exact HK.out)⟩
    ·rw [if_neg c5] at H
     have c5b0 : decide (0 ≤ t163) = false := decide_eq_false c5
     clear c5
     by_cases c7 : 0 ≤ x1_1
     ·rw [if_pos c7] at H
      have c7b0 : decide (0 ≤ x1_1) = true := decide_eq_true c7
      clear c7
      by_cases c8 : x1_1 < (s0_0.length : Int)
      ·rw [if_pos c8] at H
       have c8b0 : decide (x1_1 < (s0_0.length : Int)) = true := decide_eq_true c8
       clear c8
       have H' := aS H
       clear H
       go_wp2_with (first | ((with_reducible refine q0l (f := 119) rfl ?_); refine q1d (some 19) rfl rfl Tryd.func119 (by kernel_rfl) rfl #[.pointer (some ⟨g, 0, none⟩), .int .i64 x1_1, .int .i64 1] rfl (by (try simp only [List.map_toArray, List.map_cons, List.map_nil]); first | done | rfl | (simp only [List.length_drop, List.length_take]; rfl)) ?_; (with_reducible refine (q0r.calls k1 g s0_0 x1001_1 x1_1 1 t163 t164 w0 _ ?side1 ?side2 A4.out).mono ?_); (case side1 => repeat (first | (with_reducible first | exact HI0.out | apply q0d.alloc | apply q0d.drewN | apply q0d.drew | apply q0d.set_1) | exact HI0.out)); (case side2 => repeat (first | (with_reducible first | exact HB.out | apply bA | apply bN | apply bD | refine bS ?_ (q0d.ge HI0.out)) | exact HB.out)); rintro e w9 ⟨rfl, hi, hb, hk⟩; refine ⟨_, rfl, ?_⟩; have n0_ := aS (q0u.trans (by repeat (first | (with_reducible first | exact HK.out | apply q0u.set_ | apply q0z | apply q17 | apply q11) | exact HK.out)) hk (.inl rfl)); have n1_ := aS (hb); have n2_ := aS (hi); clear HK; clear HB; clear HI0; have HK := n0_; have HB := n1_; have HI0 := n2_; clear n0_ n1_ n2_; (try clear hb); (try clear hb2); (try clear hk); (try clear hi); obtain ⟨ASz10_0, cSz10_0, HGz10, hgz10, HSz10_0⟩ := HI0.out; have hcz10_0 := q2d HGz10; have hcz10_1 := q2c HGz10; have hfz10_1 := q01 HGz10 1; clear HGz10 hgz10; have p165 : 0 ≤ (x1_1 : Int) := od (by first | (with_reducible assumption) | assumption); have q165 : x1_1 < (s0_0.length : Int) := od (by first | (with_reducible assumption) | assumption); obtain ⟨ad165, A165_2, c165_2, A165_5, c165_5, e165, hx165_0, hx165_1, hx165_2, hx165_3, hx165_4, hx165_5, hl165_2, hi165_2, hl165_5, hi165_5⟩ := q1j HSz10_0 x1_1 p165 q165; cases e165; replace hx165_0 := q0e HB.out hx165_0; replace hx165_1 := q0e HB.out hx165_1; replace hx165_2 := q0e HB.out hx165_2; replace hx165_3 := q0e HB.out hx165_3; replace hx165_4 := q0e HB.out hx165_4; replace hx165_5 := q0e HB.out hx165_5; have HR165_2 := aS hi165_2; have HC165_2 := aS hl165_2; clear hi165_2 hl165_2; have HR165_5 := aS hi165_5; have HC165_5 := aS hl165_5; clear hi165_5 hl165_5; replace p165 := eq_true p165; replace q165 := eq_true q165))
       go_roundg k1
       case measure => have := HK1.out; omega
       case rel => exact ⟨((q05 s0_0 x1_1).f4), (t164), (by first | rfl | (simp; done) | simp [*]), H', ⟨by have := HK1.out; omega⟩, ⟨by repeat (first | (with_reducible first | exact HI0.out | apply q0d.alloc | apply q0d.drewN | apply q0d.drew | apply q0d.set_1) | exact HI0.out)⟩, ⟨by repeat (first | (with_reducible first | exact HK.out | apply q0u.set_ | apply q0z | apply q17 | apply q11) | exact HK.out)⟩, ⟨by repeat (first | (with_reducible first | exact HB.out | apply bA | apply bN | apply bD | refine bS ?_ (q0d.ge HI0.out)) | exact HB.out)⟩⟩
      ·rw [if_neg c8] at H
       exact absurd H (by simp)
     ·rw [if_neg c7] at H
      exact absurd H (by simp)
   ·rw [if_neg c3] at H
    have c3b0 : decide (0 ≤ x1_1) = false := decide_eq_false c3
    clear c3
    simp only [Option.some.injEq, Prod.mk.injEq] at H
    obtain ⟨rfl, rfl⟩ := H
    go_wp2
    go_ret
    exact ⟨by first | rfl | (simp [q0b, q0a] <;> rfl) | (simp [*, q0b, q0a] <;> rfl), by repeat (first | (with_reducible first | exact HI0.out | apply q0d.alloc | apply q0d.drewN | apply q0d.drew | apply q0d.set_1) | exact HI0.out), by repeat (first | (with_reducible first | exact HB.out | apply bA | apply bN | apply bD | refine bS ?_ (q0d.ge HI0.out)) | exact HB.out), by repeat (first | (with_reducible first | exact HK.out | apply q0u.set_ | apply q0z | apply q17 | apply q11) | exact HK.out)⟩
def q1b.f (s0_0 : List (S43)) (s0_1 : Bool) (a1 : Int) (a2 : Bool) : Option (Int × Bool) := if 0 ≤ a1 then (if a1 < (s0_0.length : Int) then (if (((q05 s0_0 a1).f5).length : Int) = 0 then (some ((-1), s0_1)) else (if a2 = true then (if 0 ≤ (wrap64 ((((q05 s0_0 a1).f5).length : Int) - 1)) then (if (wrap64 ((((q05 s0_0 a1).f5).length : Int) - 1)) < (((q05 s0_0 a1).f5).length : Int) then (some (rd ((q05 s0_0 a1).f5) (wrap64 ((((q05 s0_0 a1).f5).length : Int) - 1)), s0_1)) else (none)) else (none)) else (if 0 < (((q05 s0_0 a1).f5).length : Int) then (some (rd ((q05 s0_0 a1).f5) 0, s0_1)) else (none)))) else (none)) else (none)
set_option maxHeartbeats 8000000 in
set_option maxRecDepth 100000 in
theorem q1b.calls (g : Nat) (s0_0 : List (S43)) (s0_1 : Bool) (a1 : Int) (a2 : Bool) (r1 : Int) (r2 : Bool) (w0 w : World) (hI : q0d w0 w g s0_0 s0_1) (hB : Below w0.heap.size w0 w) (h : q1b.f s0_0 s0_1 a1 a2 = some (r1, r2)) :
 Calls Tryd.prog 118 #[.pointer (some ⟨g, 0, none⟩), .int .i64 a1, .bool a2] w fun e w' => e = .returned (.int .i64 r1) ∧ q0d w0 w' g s0_0 r2 ∧ Below w0.heap.size w0 w' ∧ q0u w w' g none := by
 have HI0 := aS hI
 have HK := aS (q0u.refl w g none)
 have HL := aS hB.size
 clear hI
 have HW0 := aS hB.size
 have HB := aS hB
 clear hB
 have H : (if 0 ≤ a1 then (if a1 < (s0_0.length : Int) then (if (((q05 s0_0 a1).f5).length : Int) = 0 then (some ((-1), s0_1)) else (if a2 = true then (if 0 ≤ (wrap64 ((((q05 s0_0 a1).f5).length : Int) - 1)) then (if (wrap64 ((((q05 s0_0 a1).f5).length : Int) - 1)) < (((q05 s0_0 a1).f5).length : Int) then (some (rd ((q05 s0_0 a1).f5) (wrap64 ((((q05 s0_0 a1).f5).length : Int) - 1)), s0_1)) else (none)) else (none)) else (if 0 < (((q05 s0_0 a1).f5).length : Int) then (some (rd ((q05 s0_0 a1).f5) 0, s0_1)) else (none)))) else (none)) else (none)) = some (r1, r2) := h
 clear h
 by_cases c4 : 0 ≤ a1
 ·rw [if_pos c4] at H
  have c4b0 : decide (0 ≤ a1) = true := decide_eq_true c4
  clear c4
  by_cases c5 : a1 < (s0_0.length : Int)
  ·rw [if_pos c5] at H
   have c5b0 : decide (a1 < (s0_0.length : Int)) = true := decide_eq_true c5
   clear c5
   by_cases c6 : (((q05 s0_0 a1).f5).length : Int) = 0
   ·rw [if_pos c6] at H
    have c6b0 : ((((q05 s0_0 a1).f5).length : Int) == 0) = true := beq_iff_eq.mpr c6
    have c6b1 : ((((q05 s0_0 a1).f5).length : Int) != 0) = false := bne_eq_false_iff_eq.mpr c6
    clear c6
    simp only [Option.some.injEq, Prod.mk.injEq] at H
    obtain ⟨rfl, rfl⟩ := H
    obtain ⟨ASz7_0, cSz7_0, HGz7, hgz7, HSz7_0⟩ := HI0.out
    have hcz7_0 := q2d HGz7
    have hcz7_1 := q2c HGz7
    have hfz7_1 := q01 HGz7 1
    clear HGz7 hgz7
    have p166 : 0 ≤ (a1 : Int) := od (by first | (with_reducible assumption) | assumption)
    have q166 : a1 < (s0_0.length : Int) := od (by first | (with_reducible assumption) | assumption)
    obtain ⟨ad166, A166_2, c166_2, A166_5, c166_5, e166, hx166_0, hx166_1, hx166_2, hx166_3, hx166_4, hx166_5, hl166_2, hi166_2, hl166_5, hi166_5⟩ := q1j HSz7_0 a1 p166 q166
    cases e166
    replace hx166_0 := q0e HB.out hx166_0
    replace hx166_1 := q0e HB.out hx166_1
    replace hx166_2 := q0e HB.out hx166_2
    replace hx166_3 := q0e HB.out hx166_3
    replace hx166_4 := q0e HB.out hx166_4
    replace hx166_5 := q0e HB.out hx166_5
    have HR166_2 := aS hi166_2
    have HC166_2 := aS hl166_2
    clear hi166_2 hl166_2
    have HR166_5 := aS hi166_5
    have HC166_5 := aS hl166_5
    clear hi166_5 hl166_5
    replace p166 := eq_true p166
    replace q166 := eq_true q166
    go_enter Tryd.func118, Tryd.ntmps118
    go_wp2
    go_ret
    exact ⟨by first | rfl | (simp [q0b, q0a] <;> rfl) | (simp [*, q0b, q0a] <;> rfl), by repeat (first | (with_reducible first | exact HI0.out | apply q0d.alloc | apply q0d.drewN | apply q0d.drew | apply q0d.set_1) | exact HI0.out), by repeat (first | (with_reducible first | exact HB.out | apply bA | apply bN | apply bD | refine bS ?_ (q0d.ge HI0.out)) | exact HB.out), by repeat (first | (with_reducible first | exact HK.out | apply q0u.set_ | apply q0z | apply q17 | apply q11) | exact HK.out)⟩
   ·rw [if_neg c6] at H
    have c6b0 : ((((q05 s0_0 a1).f5).length : Int) == 0) = false := beq_eq_false_iff_ne.mpr c6
    have c6b1 : ((((q05 s0_0 a1).f5).length : Int) != 0) = true := bne_iff_ne.mpr c6
    have c6b2 : ¬ (((q05 s0_0 a1).f5) = []) := fun h_ => c6 (by rw [h_]; rfl)
    by_cases c8 : a2 = true
    ·subst c8
     have H1 : (if 0 ≤ (wrap64 ((((q05 s0_0 a1).f5).length : Int) - 1)) then (if (wrap64 ((((q05 s0_0 a1).f5).length : Int) - 1)) < (((q05 s0_0 a1).f5).length : Int) then (some (rd ((q05 s0_0 a1).f5) (wrap64 ((((q05 s0_0 a1).f5).length : Int) - 1)), s0_1)) else (none)) else (none)) = some (r1, r2) := by rw [if_pos rfl] at H; exact H
     clear H
     have H := H1
     clear H1
     obtain ⟨ji9, hji9⟩ : ∃ j_ : Int, (wrap64 ((((q05 s0_0 a1).f5).length : Int) - 1)) = j_ := ⟨_, rfl⟩
     replace H : (if 0 ≤ (ji9) then (if (ji9) < (((q05 s0_0 a1).f5).length : Int) then (some (rd ((q05 s0_0 a1).f5) (ji9), s0_1)) else (none)) else (none)) = some (r1, r2) := by first | (rw [hji9] at H; exact H) | (simp only [hji9] at H ⊢; exact H)
     have hji9w : (IntKind.i64.wrap ((((q05 s0_0 a1).f5).length : Int) - 1)) = ji9 := (q1e _).trans hji9
     by_cases c10 : 0 ≤ (ji9)
     ·rw [if_pos c10] at H
      have c10b0 : decide (0 ≤ (ji9)) = true := decide_eq_true c10
      clear c10
      by_cases c11 : (ji9) < (((q05 s0_0 a1).f5).length : Int)
      ·rw [if_pos c11] at H
       have c11b0 : decide ((ji9) < (((q05 s0_0 a1).f5).length : Int)) = true := decide_eq_true c11
       clear c11
       simp only [Option.some.injEq, Prod.mk.injEq] at H
       obtain ⟨rfl, rfl⟩ := H
       obtain ⟨ASz12_0, cSz12_0, HGz12, hgz12, HSz12_0⟩ := HI0.out
       have hcz12_0 := q2d HGz12
       have hcz12_1 := q2c HGz12
       have hfz12_1 := q01 HGz12 1
       clear HGz12 hgz12
       have p166 : 0 ≤ (a1 : Int) := od (by first | (with_reducible assumption) | assumption)
       have q166 : a1 < (s0_0.length : Int) := od (by first | (with_reducible assumption) | assumption)
       obtain ⟨ad166, A166_2, c166_2, A166_5, c166_5, e166, hx166_0, hx166_1, hx166_2, hx166_3, hx166_4, hx166_5, hl166_2, hi166_2, hl166_5, hi166_5⟩ := q1j HSz12_0 a1 p166 q166
       cases e166
       replace hx166_0 := q0e HB.out hx166_0
       replace hx166_1 := q0e HB.out hx166_1
       replace hx166_2 := q0e HB.out hx166_2
       replace hx166_3 := q0e HB.out hx166_3
       replace hx166_4 := q0e HB.out hx166_4
       replace hx166_5 := q0e HB.out hx166_5
       have HR166_2 := aS hi166_2
       have HC166_2 := aS hl166_2
       clear hi166_2 hl166_2
       have HR166_5 := aS hi166_5
       have HC166_5 := aS hl166_5
       clear hi166_5 hl166_5
       replace p166 := eq_true p166
       replace q166 := eq_true q166
       have p167 : 0 ≤ ((ji9) : Int) := od (by first | (with_reducible assumption) | assumption)
       have q167 : (ji9) < (((q05 s0_0 a1).f5).length : Int) := od (by first | (with_reducible assumption) | assumption)
       obtain ⟨ad167, e167, hx167_0⟩ := Kd.at_int HR166_5.out (ji9) p167 q167
       cases e167
       replace hx167_0 := q0e HB.out hx167_0
       replace p167 := eq_true p167
       replace q167 := eq_true q167
       go_enter Tryd.func118, Tryd.ntmps118
       go_wp2
       go_ret
       exact ⟨by first | rfl | (simp [q0b, q0a] <;> rfl) | (simp only [← hji9]; first | rfl | (simp [q0b, q0a] <;> rfl)) | (simp [*, q0b, q0a] <;> rfl), by repeat (first | (with_reducible first | exact HI0.out | apply q0d.alloc | apply q0d.drewN | apply q0d.drew | apply q0d.set_1) | exact HI0.out), by repeat (first | (with_reducible first | exact HB.out | apply bA | apply bN | apply bD | refine bS ?_ (q0d.ge HI0.out)) | exact HB.out), by repeat (first | (with_reducible first | exact HK.out | apply q0u.set_ | apply q0z | apply q17 | apply q11) | exact HK.out)⟩
      ·rw [if_neg c11] at H
       exact absurd H (by simp)
     ·rw [if_neg c10] at H
      exact absurd H (by simp)
    ·replace c8 := Bool.eq_false_iff.mpr c8
     subst c8
     have H1 : (if 0 < (((q05 s0_0 a1).f5).length : Int) then (some (rd ((q05 s0_0 a1).f5) 0, s0_1)) else (none)) = some (r1, r2) := by rw [if_neg (show ¬ (false = true) by decide)] at H; exact H
     clear H
     have H := H1
     clear H1
     by_cases c13 : 0 < (((q05 s0_0 a1).f5).length : Int)
     ·rw [if_pos c13] at H
      have c13b0 : decide (0 < (((q05 s0_0 a1).f5).length : Int)) = true := decide_eq_true c13
      have c13b1 : decide (0 < ((q05 s0_0 a1).f5).length) = true := decide_eq_true (by omega)
      clear c13
      simp only [Option.some.injEq, Prod.mk.injEq] at H
      obtain ⟨rfl, rfl⟩ := H
      obtain ⟨ASz14_0, cSz14_0, HGz14, hgz14, HSz14_0⟩ := HI0.out
      have hcz14_0 := q2d HGz14
      have hcz14_1 := q2c HGz14
      have hfz14_1 := q01 HGz14 1
      clear HGz14 hgz14
      have p166 : 0 ≤ (a1 : Int) := od (by first | (with_reducible assumption) | assumption)
      have q166 : a1 < (s0_0.length : Int) := od (by first | (with_reducible assumption) | assumption)
      obtain ⟨ad166, A166_2, c166_2, A166_5, c166_5, e166, hx166_0, hx166_1, hx166_2, hx166_3, hx166_4, hx166_5, hl166_2, hi166_2, hl166_5, hi166_5⟩ := q1j HSz14_0 a1 p166 q166
      cases e166
      replace hx166_0 := q0e HB.out hx166_0
      replace hx166_1 := q0e HB.out hx166_1
      replace hx166_2 := q0e HB.out hx166_2
      replace hx166_3 := q0e HB.out hx166_3
      replace hx166_4 := q0e HB.out hx166_4
      replace hx166_5 := q0e HB.out hx166_5
      have HR166_2 := aS hi166_2
      have HC166_2 := aS hl166_2
      clear hi166_2 hl166_2
      have HR166_5 := aS hi166_5
      have HC166_5 := aS hl166_5
      clear hi166_5 hl166_5
      replace p166 := eq_true p166
      replace q166 := eq_true q166
      have p168 : 0 ≤ (0 : Int) := (by omega)
      have q168 : 0 < (((q05 s0_0 a1).f5).length : Int) := od (by first | (with_reducible assumption) | assumption)
      obtain ⟨ad168, e168, hx168_0⟩ := Kd.at_int HR166_5.out 0 p168 q168
      cases e168
      have qi168 : (0 < ((q05 s0_0 a1).f5).length) = True := eq_true (by omega)
      (try rw [show ((0 : Int)).toNat = 0 from rfl] at hx168_0)
      (try rw [Addr.add_zero'] at hx168_0)
      replace hx168_0 := q0e HB.out hx168_0
      replace p168 := eq_true p168
      replace q168 := eq_true q168
      go_enter Tryd.func118, Tryd.ntmps118
      go_wp2
      go_ret
      exact ⟨by first | rfl | (simp [q0b, q0a] <;> rfl) | (simp [*, q0b, q0a] <;> rfl), by repeat (first | (with_reducible first | exact HI0.out | apply q0d.alloc | apply q0d.drewN | apply q0d.drew | apply q0d.set_1) | exact HI0.out), by repeat (first | (with_reducible first | exact HB.out | apply bA | apply bN | apply bD | refine bS ?_ (q0d.ge HI0.out)) | exact HB.out), by repeat (first | (with_reducible first | exact HK.out | apply q0u.set_ | apply q0z | apply q17 | apply q11) | exact HK.out)⟩
     ·rw [if_neg c13] at H
      exact absurd H (by simp)
  ·rw [if_neg c5] at H
   exact absurd H (by simp)
 ·rw [if_neg c4] at H
  exact absurd H (by simp)
def q1g.f (k : Nat) (s0_0 : List (S43)) (s0_1 : Bool) (a1 : Int) : Option (Int × Bool) := (q1b.f s0_0 s0_1 a1 false).bind fun bt169 => (if bt169.1 ≥ 0 then (some (bt169.1, bt169.2)) else ((q0q.f k s0_0 bt169.2 a1).bind fun bt171 => (some (bt171.1, bt171.2))))
theorem q1g.mono : ∀ a0 a1 a2 k, LeO (q1g.f k a0 a1 a2) (q1g.f (k + 1) a0 a1 a2) := by
 intro a0 a1 a2 k
 unfold q1g.f
 repeat' first
  | (with_reducible exact q0q.mono _ _ _ _)
  | (with_reducible exact LeO.refl _)
  | (with_reducible exact LeO.none _)
  | (with_reducible refine LeO.ite ?_ ?_)
  | (with_reducible refine LeO.bind ?_ (fun _ => ?_))
  | exact q0q.mono _ _ _ _
  | exact LeO.none _
  | refine LeO.ite ?_ ?_
  | refine LeO.bind ?_ (fun _ => ?_)
set_option maxHeartbeats 8000000 in
set_option maxRecDepth 100000 in
theorem q1g.calls (k : Nat) (g : Nat) (s0_0 : List (S43)) (s0_1 : Bool) (a1 : Int) (r1 : Int) (r2 : Bool) (w0 w : World) (hI : q0d w0 w g s0_0 s0_1) (hB : Below w0.heap.size w0 w) (h : q1g.f k s0_0 s0_1 a1 = some (r1, r2)) :
 Calls Tryd.prog 115 #[.pointer (some ⟨g, 0, none⟩), .int .i64 a1] w fun e w' => e = .returned (.int .i64 r1) ∧ q0d w0 w' g s0_0 r2 ∧ Below w0.heap.size w0 w' ∧ q0u w w' g none := by
 have HI0 := aS hI
 have HK := aS (q0u.refl w g none)
 have HL := aS hB.size
 clear hI
 have HW0 := aS hB.size
 have HB := aS hB
 clear hB
 have H : ((q1b.f s0_0 s0_1 a1 false).bind fun bt169 => (if bt169.1 ≥ 0 then (some (bt169.1, bt169.2)) else ((q0q.f k s0_0 bt169.2 a1).bind fun bt171 => (some (bt171.1, bt171.2))))) = some (r1, r2) := h
 clear h
 replace H := Option.bind_eq_some_iff.mp H
 obtain ⟨⟨t169, t170⟩, A30, H⟩ := H
 replace H : (if t169 ≥ 0 then (some (t169, t170)) else ((q0q.f k s0_0 t170 a1).bind fun bt171 => (some (bt171.1, bt171.2)))) = some (r1, r2) := H
 have A3 := aS A30
 clear A30
 by_cases c4 : t169 ≥ 0
 ·rw [if_pos c4] at H
  have c4b0 : decide (0 ≤ t169) = true := decide_eq_true c4
  clear c4
  simp only [Option.some.injEq, Prod.mk.injEq] at H
  obtain ⟨rfl, rfl⟩ := H
  go_enter Tryd.func115, Tryd.ntmps115
  go_wp2_with (first | ((with_reducible refine q0l (f := 118) rfl ?_); refine q1d (some 8) rfl rfl Tryd.func118 (by kernel_rfl) rfl #[.pointer (some ⟨g, 0, none⟩), .int .i64 a1, .bool false] rfl (by (try simp only [List.map_toArray, List.map_cons, List.map_nil]); first | done | rfl | (simp only [List.length_drop, List.length_take]; rfl)) ?_; (with_reducible refine (q1b.calls g s0_0 s0_1 a1 false t169 t170 w0 _ ?side1 ?side2 A3.out).mono ?_); (case side1 => repeat (first | (with_reducible first | exact HI0.out | apply q0d.alloc | apply q0d.drewN | apply q0d.drew | apply q0d.set_1) | exact HI0.out)); (case side2 => repeat (first | (with_reducible first | exact HB.out | apply bA | apply bN | apply bD | refine bS ?_ (q0d.ge HI0.out)) | exact HB.out)); rintro e w5 ⟨rfl, hi, hb, hk⟩; refine ⟨_, rfl, ?_⟩; have n0_ := aS (q0u.trans (by repeat (first | (with_reducible first | exact HK.out | apply q0u.set_ | apply q0z | apply q17 | apply q11) | exact HK.out)) hk (.inl rfl)); have n1_ := aS (hb); have n2_ := aS (hi); clear HK; clear HB; clear HI0; have HK := n0_; have HB := n1_; have HI0 := n2_; clear n0_ n1_ n2_; (try clear hb); (try clear hb2); (try clear hk); (try clear hi)))
  go_ret
  exact ⟨by first | rfl | (simp [q0b, q0a] <;> rfl) | (simp [*, q0b, q0a] <;> rfl), by repeat (first | (with_reducible first | exact HI0.out | apply q0d.alloc | apply q0d.drewN | apply q0d.drew | apply q0d.set_1) | exact HI0.out), by repeat (first | (with_reducible first | exact HB.out | apply bA | apply bN | apply bD | refine bS ?_ (q0d.ge HI0.out)) | exact HB.out), by repeat (first | (with_reducible first | exact HK.out | apply q0u.set_ | apply q0z | apply q17 | apply q11) | exact HK.out)⟩
 ·rw [if_neg c4] at H
  have c4b0 : decide (0 ≤ t169) = false := decide_eq_false c4
  clear c4
  replace H := Option.bind_eq_some_iff.mp H
  obtain ⟨⟨t171, t172⟩, A60, H⟩ := H
  replace H : (some (t171, t172)) = some (r1, r2) := H
  have A6 := aS A60
  clear A60
  simp only [Option.some.injEq, Prod.mk.injEq] at H
  obtain ⟨rfl, rfl⟩ := H
  go_enter Tryd.func115, Tryd.ntmps115
  go_wp2_with (first | ((with_reducible refine q0l (f := 118) rfl ?_); refine q1d (some 8) rfl rfl Tryd.func118 (by kernel_rfl) rfl #[.pointer (some ⟨g, 0, none⟩), .int .i64 a1, .bool false] rfl (by (try simp only [List.map_toArray, List.map_cons, List.map_nil]); first | done | rfl | (simp only [List.length_drop, List.length_take]; rfl)) ?_; (with_reducible refine (q1b.calls g s0_0 s0_1 a1 false t169 t170 w0 _ ?side1 ?side2 A3.out).mono ?_); (case side1 => repeat (first | (with_reducible first | exact HI0.out | apply q0d.alloc | apply q0d.drewN | apply q0d.drew | apply q0d.set_1) | exact HI0.out)); (case side2 => repeat (first | (with_reducible first | exact HB.out | apply bA | apply bN | apply bD | refine bS ?_ (q0d.ge HI0.out)) | exact HB.out)); rintro e w7 ⟨rfl, hi, hb, hk⟩; refine ⟨_, rfl, ?_⟩; have n0_ := aS (q0u.trans (by repeat (first | (with_reducible first | exact HK.out | apply q0u.set_ | apply q0z | apply q17 | apply q11) | exact HK.out)) hk (.inl rfl)); have n1_ := aS (hb); have n2_ := aS (hi); clear HK; clear HB; clear HI0; have HK := n0_; have HB := n1_; have HI0 := n2_; clear n0_ n1_ n2_; (try clear hb); (try clear hb2); (try clear hk); (try clear hi)) | ((with_reducible refine q0l (f := 117) rfl ?_); refine q1d (some 14) rfl rfl Tryd.func117 (by kernel_rfl) rfl #[.pointer (some ⟨g, 0, none⟩), .int .i64 a1] rfl (by (try simp only [List.map_toArray, List.map_cons, List.map_nil]); first | done | rfl | (simp only [List.length_drop, List.length_take]; rfl)) ?_; (with_reducible refine (q0q.calls k g s0_0 t170 a1 t171 t172 w0 _ ?side1 ?side2 A6.out).mono ?_); (case side1 => repeat (first | (with_reducible first | exact HI0.out | apply q0d.alloc | apply q0d.drewN | apply q0d.drew | apply q0d.set_1) | exact HI0.out)); (case side2 => repeat (first | (with_reducible first | exact HB.out | apply bA | apply bN | apply bD | refine bS ?_ (q0d.ge HI0.out)) | exact HB.out)); rintro e w8 ⟨rfl, hi, hb, hk⟩; refine ⟨_, rfl, ?_⟩; have n0_ := aS (q0u.trans (by repeat (first | (with_reducible first | exact HK.out | apply q0u.set_ | apply q0z | apply q17 | apply q11) | exact HK.out)) hk (.inl rfl)); have n1_ := aS (hb); have n2_ := aS (hi); clear HK; clear HB; clear HI0; have HK := n0_; have HB := n1_; have HI0 := n2_; clear n0_ n1_ n2_; (try clear hb); (try clear hb2); (try clear hk); (try clear hi)))
  go_ret
  exact ⟨by first | rfl | (simp [q0b, q0a] <;> rfl) | (simp [*, q0b, q0a] <;> rfl), by repeat (first | (with_reducible first | exact HI0.out | apply q0d.alloc | apply q0d.drewN | apply q0d.drew | apply q0d.set_1) | exact HI0.out), by repeat (first | (with_reducible first | exact HB.out | apply bA | apply bN | apply bD | refine bS ?_ (q0d.ge HI0.out)) | exact HB.out), by repeat (first | (with_reducible first | exact HK.out | apply q0u.set_ | apply q0z | apply q17 | apply q11) | exact HK.out)⟩
def q0t.l0 : Nat → Int → List (S43) → Bool → Option (Int × Bool)
 | 0, _, _, _ => none
 | k + 1, x5, x1000, x1001 => (q1b.f x1000 x1001 x5 true).bind fun bt176 => (if bt176.1 ≥ 0 then ((q1b.f x1000 bt176.2 x5 true).bind fun bt178 => (q0t.l0 k bt178.1 x1000 bt178.2)) else (some (x5, bt176.2)))
def q0t.f (k : Nat) (s0_0 : List (S43)) (s0_1 : Bool) (a1 : Int) : Option (Int × Bool) := (q0r.f k s0_0 s0_1 a1 (-1)).bind fun bt173 => (if bt173.1 < 0 then (if 0 ≤ a1 then (if a1 < (s0_0.length : Int) then (some ((q05 s0_0 a1).f4, bt173.2)) else (none)) else (none)) else (q0t.l0 k bt173.1 s0_0 bt173.2))
theorem q0t.mono_l : ∀ k, (∀ y0 y1 y2, LeO (q0t.l0 k y0 y1 y2) (q0t.l0 (k + 1) y0 y1 y2))
 | 0 => fun _ _ _ r h => by simp [q0t.l0] at h
 | k + 1 => by
  have ih0 := q0t.mono_l k
  ·intro y0 y1 y2
   unfold q0t.l0
   repeat' first
   | (with_reducible exact ih0 _ _ _)
   | (with_reducible exact q0r.mono _ _ _ _ _)
   | (with_reducible exact LeO.refl _)
   | (with_reducible exact LeO.none _)
   | (with_reducible refine LeO.ite ?_ ?_)
   | (with_reducible refine LeO.bind ?_ (fun _ => ?_))
   | exact ih0 _ _ _
   | exact q0r.mono _ _ _ _ _
   | exact LeO.none _
   | refine LeO.ite ?_ ?_
   | refine LeO.bind ?_ (fun _ => ?_)
theorem q0t.mono : ∀ a0 a1 a2 k, LeO (q0t.f k a0 a1 a2) (q0t.f (k + 1) a0 a1 a2) := by
 intro a0 a1 a2 k
 have ih0 := q0t.mono_l k
 unfold q0t.f
 repeat' first
  | (with_reducible exact ih0 _ _ _)
  | (with_reducible exact q0r.mono _ _ _ _ _)
  | (with_reducible exact LeO.refl _)
  | (with_reducible exact LeO.none _)
  | (with_reducible refine LeO.ite ?_ ?_)
  | (with_reducible refine LeO.bind ?_ (fun _ => ?_))
  | exact ih0 _ _ _
  | exact q0r.mono _ _ _ _ _
  | exact LeO.none _
  | refine LeO.ite ?_ ?_
  | refine LeO.bind ?_ (fun _ => ?_)
set_option maxHeartbeats 8000000 in
set_option maxRecDepth 100000 in
theorem q0t.calls (k : Nat) (g : Nat) (s0_0 : List (S43)) (s0_1 : Bool) (a1 : Int) (r1 : Int) (r2 : Bool) (w0 w : World) (hI : q0d w0 w g s0_0 s0_1) (hB : Below w0.heap.size w0 w) (h : q0t.f k s0_0 s0_1 a1 = some (r1, r2)) :
 Calls Tryd.prog 116 #[.pointer (some ⟨g, 0, none⟩), .int .i64 a1] w fun e w' => e = .returned (.int .i64 r1) ∧ q0d w0 w' g s0_0 r2 ∧ Below w0.heap.size w0 w' ∧ q0u w w' g none := by
 have HI0 := aS hI
 have HK := aS (q0u.refl w g none)
 have HL := aS hB.size
 clear hI
 have HW0 := aS hB.size
 have HB := aS hB
 clear hB
 have H : ((q0r.f k s0_0 s0_1 a1 (-1)).bind fun bt173 => (if bt173.1 < 0 then (if 0 ≤ a1 then (if a1 < (s0_0.length : Int) then (some ((q05 s0_0 a1).f4, bt173.2)) else (none)) else (none)) else (q0t.l0 k bt173.1 s0_0 bt173.2))) = some (r1, r2) := h
 clear h
 replace H := Option.bind_eq_some_iff.mp H
 obtain ⟨⟨t173, t174⟩, A30, H⟩ := H
 replace H : (if t173 < 0 then (if 0 ≤ a1 then (if a1 < (s0_0.length : Int) then (some ((q05 s0_0 a1).f4, t174)) else (none)) else (none)) else (q0t.l0 k t173 s0_0 t174)) = some (r1, r2) := H
 have A3 := aS A30
 clear A30
 by_cases c4 : t173 < 0
 ·rw [if_pos c4] at H
  have c4b0 : decide (t173 < 0) = true := decide_eq_true c4
  clear c4
  by_cases c5 : 0 ≤ a1
  ·rw [if_pos c5] at H
   have c5b0 : decide (0 ≤ a1) = true := decide_eq_true c5
   clear c5
   by_cases c6 : a1 < (s0_0.length : Int)
   ·rw [if_pos c6] at H
    have c6b0 : decide (a1 < (s0_0.length : Int)) = true := decide_eq_true c6
    clear c6
    simp only [Option.some.injEq, Prod.mk.injEq] at H
    obtain ⟨rfl, rfl⟩ := H
    go_enter Tryd.func116, Tryd.ntmps116
    go_wp2_with (first | ((with_reducible refine q0l (f := 119) rfl ?_); refine q1d (some 8) rfl rfl Tryd.func119 (by kernel_rfl) rfl #[.pointer (some ⟨g, 0, none⟩), .int .i64 a1, .int .i64 (-1)] rfl (by (try simp only [List.map_toArray, List.map_cons, List.map_nil]); first | done | rfl | (simp only [List.length_drop, List.length_take]; rfl)) ?_; (with_reducible refine (q0r.calls k g s0_0 s0_1 a1 (-1) t173 t174 w0 _ ?side1 ?side2 A3.out).mono ?_); (case side1 => repeat (first | (with_reducible first | exact HI0.out | apply q0d.alloc | apply q0d.drewN | apply q0d.drew | apply q0d.set_1) | exact HI0.out)); (case side2 => repeat (first | (with_reducible first | exact HB.out | apply bA | apply bN | apply bD | refine bS ?_ (q0d.ge HI0.out)) | exact HB.out)); rintro e w7 ⟨rfl, hi, hb, hk⟩; refine ⟨_, rfl, ?_⟩; have n0_ := aS (q0u.trans (by repeat (first | (with_reducible first | exact HK.out | apply q0u.set_ | apply q0z | apply q17 | apply q11) | exact HK.out)) hk (.inl rfl)); have n1_ := aS (hb); have n2_ := aS (hi); clear HK; clear HB; clear HI0; have HK := n0_; have HB := n1_; have HI0 := n2_; clear n0_ n1_ n2_; (try clear hb); (try clear hb2); (try clear hk); (try clear hi); obtain ⟨ASz8_0, cSz8_0, HGz8, hgz8, HSz8_0⟩ := HI0.out; have hcz8_0 := q2d HGz8; have hcz8_1 := q2c HGz8; have hfz8_1 := q01 HGz8 1; clear HGz8 hgz8; have p175 : 0 ≤ (a1 : Int) := od (by first | (with_reducible assumption) | assumption); have q175 : a1 < (s0_0.length : Int) := od (by first | (with_reducible assumption) | assumption); obtain ⟨ad175, A175_2, c175_2, A175_5, c175_5, e175, hx175_0, hx175_1, hx175_2, hx175_3, hx175_4, hx175_5, hl175_2, hi175_2, hl175_5, hi175_5⟩ := q1j HSz8_0 a1 p175 q175; cases e175; replace hx175_0 := q0e HB.out hx175_0; replace hx175_1 := q0e HB.out hx175_1; replace hx175_2 := q0e HB.out hx175_2; replace hx175_3 := q0e HB.out hx175_3; replace hx175_4 := q0e HB.out hx175_4; replace hx175_5 := q0e HB.out hx175_5; have HR175_2 := aS hi175_2; have HC175_2 := aS hl175_2; clear hi175_2 hl175_2; have HR175_5 := aS hi175_5; have HC175_5 := aS hl175_5; clear hi175_5 hl175_5; replace p175 := eq_true p175; replace q175 := eq_true q175))
    go_ret
    exact ⟨by first | rfl | (simp [q0b, q0a] <;> rfl) | (simp [*, q0b, q0a] <;> rfl), by repeat (first | (with_reducible first | exact HI0.out | apply q0d.alloc | apply q0d.drewN | apply q0d.drew | apply q0d.set_1) | exact HI0.out), by repeat (first | (with_reducible first | exact HB.out | apply bA | apply bN | apply bD | refine bS ?_ (q0d.ge HI0.out)) | exact HB.out), by repeat (first | (with_reducible first | exact HK.out | apply q0u.set_ | apply q0z | apply q17 | apply q11) | exact HK.out)⟩
   ·rw [if_neg c6] at H
    exact absurd H (by simp)
  ·rw [if_neg c5] at H
   exact absurd H (by simp)
 ·rw [if_neg c4] at H
  have c4b0 : decide (t173 < 0) = false := decide_eq_false c4
  clear c4
  have H' := aS H
  clear H
  go_enter Tryd.func116, Tryd.ntmps116
  go_wp2_with (first | ((with_reducible refine q0l (f := 119) rfl ?_); refine q1d (some 8) rfl rfl Tryd.func119 (by kernel_rfl) rfl #[.pointer (some ⟨g, 0, none⟩), .int .i64 a1, .int .i64 (-1)] rfl (by (try simp only [List.map_toArray, List.map_cons, List.map_nil]); first | done | rfl | (simp only [List.length_drop, List.length_take]; rfl)) ?_; (with_reducible refine (q0r.calls k g s0_0 s0_1 a1 (-1) t173 t174 w0 _ ?side1 ?side2 A3.out).mono ?_); (case side1 => repeat (first | (with_reducible first | exact HI0.out | apply q0d.alloc | apply q0d.drewN | apply q0d.drew | apply q0d.set_1) | exact HI0.out)); (case side2 => repeat (first | (with_reducible first | exact HB.out | apply bA | apply bN | apply bD | refine bS ?_ (q0d.ge HI0.out)) | exact HB.out)); rintro e w9 ⟨rfl, hi, hb, hk⟩; refine ⟨_, rfl, ?_⟩; have n0_ := aS (q0u.trans (by repeat (first | (with_reducible first | exact HK.out | apply q0u.set_ | apply q0z | apply q17 | apply q11) | exact HK.out)) hk (.inl rfl)); have n1_ := aS (hb); have n2_ := aS (hi); clear HK; clear HB; clear HI0; have HK := n0_; have HB := n1_; have HI0 := n2_; clear n0_ n1_ n2_; (try clear hb); (try clear hb2); (try clear hk); (try clear hi)))
  go_loopg [5] k (fun kq v5 w' => ∃ (x5_1 : Int) (x1001_1 : Bool), v5 = .int .i64 x5_1 ∧ Aside0 (q0t.l0 kq x5_1 s0_0 x1001_1 = some (r1, r2)) ∧ Aside0 (kq ≤ k) ∧ Aside0 (q0d w0 w' g s0_0 x1001_1) ∧ Aside0 (q0u w w' g none) ∧ Aside0 (Below w0.heap.size w0 w'))
  case atStart => exact ⟨(t173), (t174), (by first | rfl | (simp; done) | simp [*]), H', ⟨Nat.le_refl _⟩, ⟨by repeat (first | (with_reducible first | exact HI0.out | apply q0d.alloc | apply q0d.drewN | apply q0d.drew | apply q0d.set_1) | exact HI0.out)⟩, ⟨by repeat (first | (with_reducible first | exact HK.out | apply q0u.set_ | apply q0z | apply q17 | apply q11) | exact HK.out)⟩, ⟨by repeat (first | (with_reducible first | exact HB.out | apply bA | apply bN | apply bD | refine bS ?_ (q0d.ge HI0.out)) | exact HB.out)⟩⟩
  case round =>
   clear H'
   try clear c1
   try clear p1
   try clear q1
   try clear hx1
   try clear p2
   try clear c4
   try clear c4b0
   try clear c5
   try clear c5b0
   try clear c6
   try clear c6b0
   try clear hcz8_0
   try clear hcz8_1
   try clear hfz8_1
   try clear hx175_0
   try clear hx175_1
   try clear hx175_2
   try clear hx175_3
   try clear hx175_4
   try clear hx175_5
   try clear p175
   try clear q175
   obtain ⟨x5_1, x1001_1, rfl, HA, HK1, HI0, HK, HB⟩ := hrel
   cases gk with
   | zero => exact absurd HA.out (by simp [q0t.l0])
   | succ k1 =>
    have H := HA.out
    clear HA
    simp only [q0t.l0] at H
    replace H := Option.bind_eq_some_iff.mp H
    obtain ⟨⟨t176, t177⟩, A100, H⟩ := H
    replace H : (if t176 ≥ 0 then ((q1b.f s0_0 t177 x5_1 true).bind fun bt178 => (q0t.l0 k1 bt178.1 s0_0 bt178.2)) else (some (x5_1, t177))) = some (r1, r2) := H
    have A10 := aS A100
    clear A100
    by_cases c11 : t176 ≥ 0
    ·rw [if_pos c11] at H
     have c11b0 : decide (0 ≤ t176) = true := decide_eq_true c11
     clear c11
     replace H := Option.bind_eq_some_iff.mp H
     obtain ⟨⟨t178, t179⟩, A120, H⟩ := H
     replace H : (q0t.l0 k1 t178 s0_0 t179) = some (r1, r2) := H
     have A12 := aS A120
     clear A120
     have H' := aS H
     clear H
     go_wp2_with (first | ((with_reducible refine q0l (f := 118) rfl ?_); refine q1d (some 22) rfl rfl Tryd.func118 (by kernel_rfl) rfl #[.pointer (some ⟨g, 0, none⟩), .int .i64 x5_1, .bool true] rfl (by (try simp only [List.map_toArray, List.map_cons, List.map_nil]); first | done | rfl | (simp only [List.length_drop, List.length_take]; rfl)) ?_; (with_reducible refine (q1b.calls g s0_0 x1001_1 x5_1 true t176 t177 w0 _ ?side1 ?side2 A10.out).mono ?_); (case side1 => repeat (first | (with_reducible first | exact HI0.out | apply q0d.alloc | apply q0d.drewN | apply q0d.drew | apply q0d.set_1) | exact HI0.out)); (case side2 => repeat (first | (with_reducible first | exact HB.out | apply bA | apply bN | apply bD | refine bS ?_ (q0d.ge HI0.out)) | exact HB.out)); rintro e w13 ⟨rfl, hi, hb, hk⟩; refine ⟨_, rfl, ?_⟩; have n0_ := aS (q0u.trans (by repeat (first | (with_reducible first | exact HK.out | apply q0u.set_ | apply q0z | apply q17 | apply q11) | exact HK.out)) hk (.inl rfl)); have n1_ := aS (hb); have n2_ := aS (hi); clear HK; clear HB; clear HI0; have HK := n0_; have HB := n1_; have HI0 := n2_; clear n0_ n1_ n2_; (try clear hb); (try clear hb2); (try clear hk); (try clear hi)) | ((with_reducible refine q0l (f := 118) rfl ?_); refine q1d (some 26) rfl rfl Tryd.func118 (by kernel_rfl) rfl #[.pointer (some ⟨g, 0, none⟩), .int .i64 x5_1, .bool true] rfl (by (try simp only [List.map_toArray, List.map_cons, List.map_nil]); first | done | rfl | (simp only [List.length_drop, List.length_take]; rfl)) ?_; (with_reducible refine (q1b.calls g s0_0 t177 x5_1 true t178 t179 w0 _ ?side1 ?side2 A12.out).mono ?_); (case side1 => repeat (first | (with_reducible first | exact HI0.out | apply q0d.alloc | apply q0d.drewN | apply q0d.drew | apply q0d.set_1) | exact HI0.out)); (case side2 => repeat (first | (with_reducible first | exact HB.out | apply bA | apply bN | apply bD | refine bS ?_ (q0d.ge HI0.out)) | exact HB.out)); rintro e w14 ⟨rfl, hi, hb, hk⟩; refine ⟨_, rfl, ?_⟩; have n0_ := aS (q0u.trans (by repeat (first | (with_reducible first | exact HK.out | apply q0u.set_ | apply q0z | apply q17 | apply q11) | exact HK.out)) hk (.inl rfl)); have n1_ := aS (hb); have n2_ := aS (hi); clear HK; clear HB; clear HI0; have HK := n0_; have HB := n1_; have HI0 := n2_; clear n0_ n1_ n2_; (try clear hb); (try clear hb2); (try clear hk); (try clear hi)))
     go_roundg k1
     case measure => have := HK1.out; omega
     case rel => exact ⟨(t178), (t179), (by first | rfl | (simp; done) | simp [*]), H', ⟨by have := HK1.out; omega⟩, ⟨by repeat (first | (with_reducible first | exact HI0.out | apply q0d.alloc | apply q0d.drewN | apply q0d.drew | apply q0d.set_1) | exact HI0.out)⟩, ⟨by repeat (first | (with_reducible first | exact HK.out | apply q0u.set_ | apply q0z | apply q17 | apply q11) | exact HK.out)⟩, ⟨by repeat (first | (with_reducible first | exact HB.out | apply bA | apply bN | apply bD | refine bS ?_ (q0d.ge HI0.out)) | exact HB.out)⟩⟩
    ·rw [if_neg c11] at H
     have c11b0 : decide (0 ≤ t176) = false := decide_eq_false c11
     clear c11
     simp only [Option.some.injEq, Prod.mk.injEq] at H
     obtain ⟨rfl, rfl⟩ := H
     go_wp2_with (first | ((with_reducible refine q0l (f := 118) rfl ?_); refine q1d (some 22) rfl rfl Tryd.func118 (by kernel_rfl) rfl #[.pointer (some ⟨g, 0, none⟩), .int .i64 x5_1, .bool true] rfl (by (try simp only [List.map_toArray, List.map_cons, List.map_nil]); first | done | rfl | (simp only [List.length_drop, List.length_take]; rfl)) ?_; (with_reducible refine (q1b.calls g s0_0 x1001_1 x5_1 true t176 t177 w0 _ ?side1 ?side2 A10.out).mono ?_); (case side1 => repeat (first | (with_reducible first | exact HI0.out | apply q0d.alloc | apply q0d.drewN | apply q0d.drew | apply q0d.set_1) | exact HI0.out)); (case side2 => repeat (first | (with_reducible first | exact HB.out | apply bA | apply bN | apply bD | refine bS ?_ (q0d.ge HI0.out)) | exact HB.out)); rintro e w15 ⟨rfl, hi, hb, hk⟩; refine ⟨_, rfl, ?_⟩; have n0_ := aS (q0u.trans (by repeat (first | (with_reducible first | exact HK.out | apply q0u.set_ | apply q0z | apply q17 | apply q11) | exact HK.out)) hk (.inl rfl)); have n1_ := aS (hb); have n2_ := aS (hi); clear HK; clear HB; clear HI0; have HK := n0_; have HB := n1_; have HI0 := n2_; clear n0_ n1_ n2_; (try clear hb); (try clear hb2); (try clear hk); (try clear hi)))
     go_ret
     exact ⟨by first | rfl | (simp [q0b, q0a] <;> rfl) | (simp [*, q0b, q0a] <;> rfl), by repeat (first | (with_reducible first | exact HI0.out | apply q0d.alloc | apply q0d.drewN | apply q0d.drew | apply q0d.set_1) | exact HI0.out), by repeat (first | (with_reducible first | exact HB.out | apply bA | apply bN | apply bD | refine bS ?_ (q0d.ge HI0.out)) | exact HB.out), by repeat (first | (with_reducible first | exact HK.out | apply q0u.set_ | apply q0z | apply q17 | apply q11) | exact HK.out)⟩
end Go.Proofs.YthjnallbbhnndaaDoor.XWk
namespace Go.Proofs.YthjnallbbhnndaaDoor.XWk
open Go.Proofs.YthjnallbbhnndaaDoor.Short Go.RowKit Go.Proofs.YthjnallbbhnndaaDoorW.PrintWords Go.Proofs.YthjnallbbhnndaaDoorW.PrintLast Go.Proofs.YthjnallbbhnndaaDoorW.PrintMore
attribute [local go_sem] q27 q25 q2l q2k q1w q1v q26 q24   -- for this text's walks alone
set_option linter.unusedVariables false
set_option linter.unusedSimpArgs false
def q0x.j0 : Nat → Int → Int → Int → Bool → List (S43) → Bool → Option (Int × Bool)
 | 0, _, _, _, _, _, _ => none
 | k + 1, x1, x2, x7, x23, x1000, x1001 => if x23 = true then ((q1b.f x1000 x1001 x1 (x2 == 5)).bind fun bt186 => (some (bt186.1, bt186.2))) else (if x7 = 6 then ((q0r.f k x1000 x1001 x1 1).bind fun bt188 => (some (bt188.1, bt188.2))) else (if x7 = 7 then ((q0r.f k x1000 x1001 x1 (-1)).bind fun bt190 => (some (bt190.1, bt190.2))) else (if 0 ≤ x1 then (if x1 < (x1000.length : Int) then (some ((q05 x1000 x1).f4, x1001)) else (none)) else (none))))
def q0x.f (k : Nat) (s0_0 : List (S43)) (s0_1 : Bool) (a1 : Int) (a2 : Int) : Option (Int × Bool) := if a2 = 1 then ((q1g.f k s0_0 s0_1 a1).bind fun bt180 => (some (bt180.1, bt180.2))) else (if a2 = 2 then ((q0t.f k s0_0 s0_1 a1).bind fun bt182 => (some (bt182.1, bt182.2))) else (if a2 = 3 then ((q0q.f k s0_0 s0_1 a1).bind fun bt184 => (some (bt184.1, bt184.2))) else (if a2 = 4 then (q0x.j0 k a1 a2 a2 (a2 == 4) s0_0 s0_1) else (q0x.j0 k a1 a2 a2 (a2 == 5) s0_0 s0_1))))
theorem q0x.mono_l : ∀ k, (∀ y0 y1 y2 y3 y4 y5, LeO (q0x.j0 k y0 y1 y2 y3 y4 y5) (q0x.j0 (k + 1) y0 y1 y2 y3 y4 y5))
 | 0 => fun _ _ _ _ _ _ r h => by simp [q0x.j0] at h
 | k + 1 => by
  have ih0 := q0x.mono_l k
  ·intro y0 y1 y2 y3 y4 y5
   unfold q0x.j0
   repeat' first
   | (with_reducible exact ih0 _ _ _ _ _ _)
   | (with_reducible exact q0r.mono _ _ _ _ _)
   | (with_reducible exact q0t.mono _ _ _ _)
   | (with_reducible exact q1g.mono _ _ _ _)
   | (with_reducible exact q0q.mono _ _ _ _)
   | (with_reducible exact LeO.refl _)
   | (with_reducible exact LeO.none _)
   | (with_reducible refine LeO.ite ?_ ?_)
   | (with_reducible refine LeO.bind ?_ (fun _ => ?_))
   | exact ih0 _ _ _ _ _ _
   | exact q0r.mono _ _ _ _ _
   | exact q0t.mono _ _ _ _
   | exact q1g.mono _ _ _ _
   | exact q0q.mono _ _ _ _
   | exact LeO.none _
   | refine LeO.ite ?_ ?_
   | refine LeO.bind ?_ (fun _ => ?_)
theorem q0x.mono : ∀ a0 a1 a2 a3 k, LeO (q0x.f k a0 a1 a2 a3) (q0x.f (k + 1) a0 a1 a2 a3) := by
 intro a0 a1 a2 a3 k
 have ih0 := q0x.mono_l k
 unfold q0x.f
 repeat' first
  | (with_reducible exact ih0 _ _ _ _ _ _)
  | (with_reducible exact q0r.mono _ _ _ _ _)
  | (with_reducible exact q0t.mono _ _ _ _)
  | (with_reducible exact q1g.mono _ _ _ _)
  | (with_reducible exact q0q.mono _ _ _ _)
  | (with_reducible exact LeO.refl _)
  | (with_reducible exact LeO.none _)
  | (with_reducible refine LeO.ite ?_ ?_)
  | (with_reducible refine LeO.bind ?_ (fun _ => ?_))
  | exact ih0 _ _ _ _ _ _
  | exact q0r.mono _ _ _ _ _
  | exact q0t.mono _ _ _ _
  | exact q1g.mono _ _ _ _
  | exact q0q.mono _ _ _ _
  | exact LeO.none _
  | refine LeO.ite ?_ ?_
  | refine LeO.bind ?_ (fun _ => ?_)
set_option maxHeartbeats 8000000 in
set_option maxRecDepth 100000 in
theorem q0x.calls (k : Nat) (g : Nat) (s0_0 : List (S43)) (s0_1 : Bool) (a1 : Int) (a2 : Int) (r1 : Int) (r2 : Bool) (w0 w : World) (hI : q0d w0 w g s0_0 s0_1) (hB : Below w0.heap.size w0 w) (h : q0x.f k s0_0 s0_1 a1 a2 = some (r1, r2)) :
 Calls Tryd.prog 71 #[.pointer (some ⟨g, 0, none⟩), .int .i64 a1, .int .i64 a2] w fun e w' => e = .returned (.int .i64 r1) ∧ q0d w0 w' g s0_0 r2 ∧ Below w0.heap.size w0 w' ∧ q0u w w' g none := by
 have HI0 := aS hI
 have HK := aS (q0u.refl w g none)
 have HL := aS hB.size
 clear hI
 have HW0 := aS hB.size
 have HB := aS hB
 clear hB
 have H : (if a2 = 1 then ((q1g.f k s0_0 s0_1 a1).bind fun bt180 => (some (bt180.1, bt180.2))) else (if a2 = 2 then ((q0t.f k s0_0 s0_1 a1).bind fun bt182 => (some (bt182.1, bt182.2))) else (if a2 = 3 then ((q0q.f k s0_0 s0_1 a1).bind fun bt184 => (some (bt184.1, bt184.2))) else (if a2 = 4 then (q0x.j0 k a1 a2 a2 (a2 == 4) s0_0 s0_1) else (q0x.j0 k a1 a2 a2 (a2 == 5) s0_0 s0_1))))) = some (r1, r2) := h
 clear h
 by_cases c4 : a2 = 1
 ·rw [if_pos c4] at H
  have c4b0 : (a2 == 1) = true := beq_iff_eq.mpr c4
  have c4b1 : (a2 != 1) = false := bne_eq_false_iff_eq.mpr c4
  clear c4
  replace H := Option.bind_eq_some_iff.mp H
  obtain ⟨⟨t180, t181⟩, A50, H⟩ := H
  replace H : (some (t180, t181)) = some (r1, r2) := H
  have A5 := aS A50
  clear A50
  simp only [Option.some.injEq, Prod.mk.injEq] at H
  obtain ⟨rfl, rfl⟩ := H
  go_enter Tryd.func71, Tryd.ntmps71
  go_wp2_with (first | ((with_reducible refine q0l (f := 115) rfl ?_); refine q1d (some 12) rfl rfl Tryd.func115 (by kernel_rfl) rfl #[.pointer (some ⟨g, 0, none⟩), .int .i64 a1] rfl (by (try simp only [List.map_toArray, List.map_cons, List.map_nil]); first | done | rfl | (simp only [List.length_drop, List.length_take]; rfl)) ?_; (with_reducible refine (q1g.calls k g s0_0 s0_1 a1 t180 t181 w0 _ ?side1 ?side2 A5.out).mono ?_); (case side1 => repeat (first | (with_reducible first | exact HI0.out | apply q0d.alloc | apply q0d.drewN | apply q0d.drew | apply q0d.set_1) | exact HI0.out)); (case side2 => repeat (first | (with_reducible first | exact HB.out | apply bA | apply bN | apply bD | refine bS ?_ (q0d.ge HI0.out)) | exact HB.out)); rintro e w6 ⟨rfl, hi, hb, hk⟩; refine ⟨_, rfl, ?_⟩; have n0_ := aS (q0u.trans (by repeat (first | (with_reducible first | exact HK.out | apply q0u.set_ | apply q0z | apply q17 | apply q11) | exact HK.out)) hk (.inl rfl)); have n1_ := aS (hb); have n2_ := aS (hi); clear HK; clear HB; clear HI0; have HK := n0_; have HB := n1_; have HI0 := n2_; clear n0_ n1_ n2_; (try clear hb); (try clear hb2); (try clear hk); (try clear hi)))
  go_ret
  exact ⟨by first | rfl | (simp [q0b, q0a] <;> rfl) | (simp [*, q0b, q0a] <;> rfl), by repeat (first | (with_reducible first | exact HI0.out | apply q0d.alloc | apply q0d.drewN | apply q0d.drew | apply q0d.set_1) | exact HI0.out), by repeat (first | (with_reducible first | exact HB.out | apply bA | apply bN | apply bD | refine bS ?_ (q0d.ge HI0.out)) | exact HB.out), by repeat (first | (with_reducible first | exact HK.out | apply q0u.set_ | apply q0z | apply q17 | apply q11) | exact HK.out)⟩
 ·rw [if_neg c4] at H
  have c4b0 : (a2 == 1) = false := beq_eq_false_iff_ne.mpr c4
  have c4b1 : (a2 != 1) = true := bne_iff_ne.mpr c4
  by_cases c7 : a2 = 2
  ·rw [if_pos c7] at H
   have c7b0 : (a2 == 2) = true := beq_iff_eq.mpr c7
   have c7b1 : (a2 != 2) = false := bne_eq_false_iff_eq.mpr c7
   clear c7
   replace H := Option.bind_eq_some_iff.mp H
   obtain ⟨⟨t182, t183⟩, A80, H⟩ := H
   replace H : (some (t182, t183)) = some (r1, r2) := H
   have A8 := aS A80
   clear A80
   simp only [Option.some.injEq, Prod.mk.injEq] at H
   obtain ⟨rfl, rfl⟩ := H
   go_enter Tryd.func71, Tryd.ntmps71
   go_wp2_with (first | ((with_reducible refine q0l (f := 116) rfl ?_); refine q1d (some 17) rfl rfl Tryd.func116 (by kernel_rfl) rfl #[.pointer (some ⟨g, 0, none⟩), .int .i64 a1] rfl (by (try simp only [List.map_toArray, List.map_cons, List.map_nil]); first | done | rfl | (simp only [List.length_drop, List.length_take]; rfl)) ?_; (with_reducible refine (q0t.calls k g s0_0 s0_1 a1 t182 t183 w0 _ ?side1 ?side2 A8.out).mono ?_); (case side1 => repeat (first | (with_reducible first | exact HI0.out | apply q0d.alloc | apply q0d.drewN | apply q0d.drew | apply q0d.set_1) | exact HI0.out)); (case side2 => repeat (first | (with_reducible first | exact HB.out | apply bA | apply bN | apply bD | refine bS ?_ (q0d.ge HI0.out)) | exact HB.out)); rintro e w9 ⟨rfl, hi, hb, hk⟩; refine ⟨_, rfl, ?_⟩; have n0_ := aS (q0u.trans (by repeat (first | (with_reducible first | exact HK.out | apply q0u.set_ | apply q0z | apply q17 | apply q11) | exact HK.out)) hk (.inl rfl)); have n1_ := aS (hb); have n2_ := aS (hi); clear HK; clear HB; clear HI0; have HK := n0_; have HB := n1_; have HI0 := n2_; clear n0_ n1_ n2_; (try clear hb); (try clear hb2); (try clear hk); (try clear hi)))
   go_ret
   exact ⟨by first | rfl | (simp [q0b, q0a] <;> rfl) | (simp [*, q0b, q0a] <;> rfl), by repeat (first | (with_reducible first | exact HI0.out | apply q0d.alloc | apply q0d.drewN | apply q0d.drew | apply q0d.set_1) | exact HI0.out), by repeat (first | (with_reducible first | exact HB.out | apply bA | apply bN | apply bD | refine bS ?_ (q0d.ge HI0.out)) | exact HB.out), by repeat (first | (with_reducible first | exact HK.out | apply q0u.set_ | apply q0z | apply q17 | apply q11) | exact HK.out)⟩
  ·rw [if_neg c7] at H
   have c7b0 : (a2 == 2) = false := beq_eq_false_iff_ne.mpr c7
   have c7b1 : (a2 != 2) = true := bne_iff_ne.mpr c7
   by_cases c10 : a2 = 3
   ·rw [if_pos c10] at H
    have c10b0 : (a2 == 3) = true := beq_iff_eq.mpr c10
    have c10b1 : (a2 != 3) = false := bne_eq_false_iff_eq.mpr c10
    clear c10
    replace H := Option.bind_eq_some_iff.mp H
    obtain ⟨⟨t184, t185⟩, A110, H⟩ := H
    replace H : (some (t184, t185)) = some (r1, r2) := H
    have A11 := aS A110
    clear A110
    simp only [Option.some.injEq, Prod.mk.injEq] at H
    obtain ⟨rfl, rfl⟩ := H
    go_enter Tryd.func71, Tryd.ntmps71
    go_wp2_with (first | ((with_reducible refine q0l (f := 117) rfl ?_); refine q1d (some 22) rfl rfl Tryd.func117 (by kernel_rfl) rfl #[.pointer (some ⟨g, 0, none⟩), .int .i64 a1] rfl (by (try simp only [List.map_toArray, List.map_cons, List.map_nil]); first | done | rfl | (simp only [List.length_drop, List.length_take]; rfl)) ?_; (with_reducible refine (q0q.calls k g s0_0 s0_1 a1 t184 t185 w0 _ ?side1 ?side2 A11.out).mono ?_); (case side1 => repeat (first | (with_reducible first | exact HI0.out | apply q0d.alloc | apply q0d.drewN | apply q0d.drew | apply q0d.set_1) | exact HI0.out)); (case side2 => repeat (first | (with_reducible first | exact HB.out | apply bA | apply bN | apply bD | refine bS ?_ (q0d.ge HI0.out)) | exact HB.out)); rintro e w12 ⟨rfl, hi, hb, hk⟩; refine ⟨_, rfl, ?_⟩; have n0_ := aS (q0u.trans (by repeat (first | (with_reducible first | exact HK.out | apply q0u.set_ | apply q0z | apply q17 | apply q11) | exact HK.out)) hk (.inl rfl)); have n1_ := aS (hb); have n2_ := aS (hi); clear HK; clear HB; clear HI0; have HK := n0_; have HB := n1_; have HI0 := n2_; clear n0_ n1_ n2_; (try clear hb); (try clear hb2); (try clear hk); (try clear hi)))
    go_ret
    exact ⟨by first | rfl | (simp [q0b, q0a] <;> rfl) | (simp [*, q0b, q0a] <;> rfl), by repeat (first | (with_reducible first | exact HI0.out | apply q0d.alloc | apply q0d.drewN | apply q0d.drew | apply q0d.set_1) | exact HI0.out), by repeat (first | (with_reducible first | exact HB.out | apply bA | apply bN | apply bD | refine bS ?_ (q0d.ge HI0.out)) | exact HB.out), by repeat (first | (with_reducible first | exact HK.out | apply q0u.set_ | apply q0z | apply q17 | apply q11) | exact HK.out)⟩
   ·rw [if_neg c10] at H
    have c10b0 : (a2 == 3) = false := beq_eq_false_iff_ne.mpr c10
    have c10b1 : (a2 != 3) = true := bne_iff_ne.mpr c10
    have HC13 := aS H
    clear H
    go_enter Tryd.func71, Tryd.ntmps71
    go_upto_if 23 with (fail)
    go_cut [23] (fun v23 wc => ∃ (kq : Nat) (x23_12 : Bool), v23 = .bool x23_12 ∧ Aside0 (q0x.j0 kq a1 a2 a2 x23_12 s0_0 s0_1 = some (r1, r2)) ∧ Aside0 (kq ≤ k) ∧ Aside0 (q0d w0 wc g s0_0 s0_1) ∧ Aside0 (q0u w wc g none) ∧ Aside0 (Below w0.heap.size w0 wc))
    case first =>
     have H := HC13.out
     clear HC13
     by_cases c14 : a2 = 4
     ·rw [if_pos c14] at H
      have c14b0 : (a2 == 4) = true := beq_iff_eq.mpr c14
      have c14b1 : (a2 != 4) = false := bne_eq_false_iff_eq.mpr c14
      clear c14
      (first | rw [c14b0] | (simp only [q1e, q1i]; rw [c14b0]) | skip)
      have H' := aS H
      clear H
      go_wp2
      go_meet
      case rel => exact ⟨_, ((a2 == 4)), (by first | rfl | (simp; done) | simp [*]), H', ⟨by first | omega | exact Nat.le_refl _⟩, ⟨by repeat (first | (with_reducible first | exact HI0.out | apply q0d.alloc | apply q0d.drewN | apply q0d.drew | apply q0d.set_1) | exact HI0.out)⟩, ⟨by repeat (first | (with_reducible first | exact HK.out | apply q0u.set_ | apply q0z | apply q17 | apply q11) | exact HK.out)⟩, ⟨by repeat (first | (with_reducible first | exact HB.out | apply bA | apply bN | apply bD | refine bS ?_ (q0d.ge HI0.out)) | exact HB.out)⟩⟩
     ·rw [if_neg c14] at H
      have c14b0 : (a2 == 4) = false := beq_eq_false_iff_ne.mpr c14
      have c14b1 : (a2 != 4) = true := bne_iff_ne.mpr c14
      (first | rw [c14b0] | (simp only [q1e, q1i]; rw [c14b0]) | skip)
      have H' := aS H
      clear H
      go_wp2
      go_meet
      case rel => exact ⟨_, ((a2 == 5)), (by first | rfl | (simp; done) | simp [*]), H', ⟨by first | omega | exact Nat.le_refl _⟩, ⟨by repeat (first | (with_reducible first | exact HI0.out | apply q0d.alloc | apply q0d.drewN | apply q0d.drew | apply q0d.set_1) | exact HI0.out)⟩, ⟨by repeat (first | (with_reducible first | exact HK.out | apply q0u.set_ | apply q0z | apply q17 | apply q11) | exact HK.out)⟩, ⟨by repeat (first | (with_reducible first | exact HB.out | apply bA | apply bN | apply bD | refine bS ?_ (q0d.ge HI0.out)) | exact HB.out)⟩⟩
    case rest =>
     clear HC13
     try clear c1
     try clear p2
     try clear c4
     try clear c4b0
     try clear c4b1
     try clear c7
     try clear c7b0
     try clear c7b1
     try clear c10
     try clear c10b0
     try clear c10b1
     try clear c11
     try clear c14
     try clear c14b0
     try clear c14b1
     obtain ⟨kq, x23_12, rfl, HA, HJ12, HI0, HK, HB⟩ := hcut
     cases kq with
     | zero => exact absurd HA.out (by simp [q0x.j0])
     | succ kj12 =>
      have H := HA.out
      clear HA
      simp only [q0x.j0] at H
      by_cases c15 : x23_12 = true
      ·subst c15
       have H1 : ((q1b.f s0_0 s0_1 a1 (a2 == 5)).bind fun bt186 => (some (bt186.1, bt186.2))) = some (r1, r2) := by rw [if_pos rfl] at H; exact H
       clear H
       have H := H1
       clear H1
       replace H := Option.bind_eq_some_iff.mp H
       obtain ⟨⟨t186, t187⟩, A160, H⟩ := H
       replace H : (some (t186, t187)) = some (r1, r2) := H
       have A16 := aS A160
       clear A160
       simp only [Option.some.injEq, Prod.mk.injEq] at H
       obtain ⟨rfl, rfl⟩ := H
       go_wp2_with (first | ((with_reducible refine q0l (f := 118) rfl ?_); refine q1d (some 30) rfl rfl Tryd.func118 (by kernel_rfl) rfl #[.pointer (some ⟨g, 0, none⟩), .int .i64 a1, .bool (a2 == 5)] rfl (by (try simp only [List.map_toArray, List.map_cons, List.map_nil]); first | done | rfl | (simp only [List.length_drop, List.length_take]; rfl)) ?_; (with_reducible refine (q1b.calls g s0_0 s0_1 a1 (a2 == 5) t186 t187 w0 _ ?side1 ?side2 A16.out).mono ?_); (case side1 => repeat (first | (with_reducible first | exact HI0.out | apply q0d.alloc | apply q0d.drewN | apply q0d.drew | apply q0d.set_1) | exact HI0.out)); (case side2 => repeat (first | (with_reducible first | exact HB.out | apply bA | apply bN | apply bD | refine bS ?_ (q0d.ge HI0.out)) | exact HB.out)); rintro e w17 ⟨rfl, hi, hb, hk⟩; refine ⟨_, rfl, ?_⟩; have n0_ := aS (q0u.trans (by repeat (first | (with_reducible first | exact HK.out | apply q0u.set_ | apply q0z | apply q17 | apply q11) | exact HK.out)) hk (.inl rfl)); have n1_ := aS (hb); have n2_ := aS (hi); clear HK; clear HB; clear HI0; have HK := n0_; have HB := n1_; have HI0 := n2_; clear n0_ n1_ n2_; (try clear hb); (try clear hb2); (try clear hk); (try clear hi)))
       go_ret
       exact ⟨by first | rfl | (simp [q0b, q0a] <;> rfl) | (simp [*, q0b, q0a] <;> rfl), by repeat (first | (with_reducible first | exact HI0.out | apply q0d.alloc | apply q0d.drewN | apply q0d.drew | apply q0d.set_1) | exact HI0.out), by repeat (first | (with_reducible first | exact HB.out | apply bA | apply bN | apply bD | refine bS ?_ (q0d.ge HI0.out)) | exact HB.out), by repeat (first | (with_reducible first | exact HK.out | apply q0u.set_ | apply q0z | apply q17 | apply q11) | exact HK.out)⟩
      ·replace c15 := Bool.eq_false_iff.mpr c15
       subst c15
       have H1 : (if a2 = 6 then ((q0r.f kj12 s0_0 s0_1 a1 1).bind fun bt188 => (some (bt188.1, bt188.2))) else (if a2 = 7 then ((q0r.f kj12 s0_0 s0_1 a1 (-1)).bind fun bt190 => (some (bt190.1, bt190.2))) else (if 0 ≤ a1 then (if a1 < (s0_0.length : Int) then (some ((q05 s0_0 a1).f4, s0_1)) else (none)) else (none)))) = some (r1, r2) := by rw [if_neg (show ¬ (false = true) by decide)] at H; exact H
       clear H
       have H := H1
       clear H1
       by_cases c18 : a2 = 6
       ·rw [if_pos c18] at H
        have c18b0 : (a2 == 6) = true := beq_iff_eq.mpr c18
        have c18b1 : (a2 != 6) = false := bne_eq_false_iff_eq.mpr c18
        clear c18
        replace H := Option.bind_eq_some_iff.mp H
        obtain ⟨⟨t188, t189⟩, A190, H⟩ := H
        replace H : (some (t188, t189)) = some (r1, r2) := H
        have A19 := aS A190
        clear A190
        simp only [Option.some.injEq, Prod.mk.injEq] at H
        obtain ⟨rfl, rfl⟩ := H
        go_wp2_with (first | ((with_reducible refine q0l (f := 119) rfl ?_); refine q1d (some 35) rfl rfl Tryd.func119 (by kernel_rfl) rfl #[.pointer (some ⟨g, 0, none⟩), .int .i64 a1, .int .i64 1] rfl (by (try simp only [List.map_toArray, List.map_cons, List.map_nil]); first | done | rfl | (simp only [List.length_drop, List.length_take]; rfl)) ?_; (with_reducible refine (q0r.calls kj12 g s0_0 s0_1 a1 1 t188 t189 w0 _ ?side1 ?side2 A19.out).mono ?_); (case side1 => repeat (first | (with_reducible first | exact HI0.out | apply q0d.alloc | apply q0d.drewN | apply q0d.drew | apply q0d.set_1) | exact HI0.out)); (case side2 => repeat (first | (with_reducible first | exact HB.out | apply bA | apply bN | apply bD | refine bS ?_ (q0d.ge HI0.out)) | exact HB.out)); rintro e w20 ⟨rfl, hi, hb, hk⟩; refine ⟨_, rfl, ?_⟩; have n0_ := aS (q0u.trans (by repeat (first | (with_reducible first | exact HK.out | apply q0u.set_ | apply q0z | apply q17 | apply q11) | exact HK.out)) hk (.inl rfl)); have n1_ := aS (hb); have n2_ := aS (hi); clear HK; clear HB; clear HI0; have HK := n0_; have HB := n1_; have HI0 := n2_; clear n0_ n1_ n2_; (try clear hb); (try clear hb2); (try clear hk); (try clear hi)))
        go_ret
        exact ⟨by first | rfl | (simp [q0b, q0a] <;> rfl) | (simp [*, q0b, q0a] <;> rfl), by repeat (first | (with_reducible first | exact HI0.out | apply q0d.alloc | apply q0d.drewN | apply q0d.drew | apply q0d.set_1) | exact HI0.out), by repeat (first | (with_reducible first | exact HB.out | apply bA | apply bN | apply bD | refine bS ?_ (q0d.ge HI0.out)) | exact HB.out), by repeat (first | (with_reducible first | exact HK.out | apply q0u.set_ | apply q0z | apply q17 | apply q11) | exact HK.out)⟩
       ·rw [if_neg c18] at H
        have c18b0 : (a2 == 6) = false := beq_eq_false_iff_ne.mpr c18
        have c18b1 : (a2 != 6) = true := bne_iff_ne.mpr c18
        by_cases c21 : a2 = 7
        ·rw [if_pos c21] at H
         have c21b0 : (a2 == 7) = true := beq_iff_eq.mpr c21
         have c21b1 : (a2 != 7) = false := bne_eq_false_iff_eq.mpr c21
         clear c21
         replace H := Option.bind_eq_some_iff.mp H
         obtain ⟨⟨t190, t191⟩, A220, H⟩ := H
         replace H : (some (t190, t191)) = some (r1, r2) := H
         have A22 := aS A220
         clear A220
         simp only [Option.some.injEq, Prod.mk.injEq] at H
         obtain ⟨rfl, rfl⟩ := H
         go_wp2_with (first | ((with_reducible refine q0l (f := 119) rfl ?_); refine q1d (some 40) rfl rfl Tryd.func119 (by kernel_rfl) rfl #[.pointer (some ⟨g, 0, none⟩), .int .i64 a1, .int .i64 (-1)] rfl (by (try simp only [List.map_toArray, List.map_cons, List.map_nil]); first | done | rfl | (simp only [List.length_drop, List.length_take]; rfl)) ?_; (with_reducible refine (q0r.calls kj12 g s0_0 s0_1 a1 (-1) t190 t191 w0 _ ?side1 ?side2 A22.out).mono ?_); (case side1 => repeat (first | (with_reducible first | exact HI0.out | apply q0d.alloc | apply q0d.drewN | apply q0d.drew | apply q0d.set_1) | exact HI0.out)); (case side2 => repeat (first | (with_reducible first | exact HB.out | apply bA | apply bN | apply bD | refine bS ?_ (q0d.ge HI0.out)) | exact HB.out)); rintro e w23 ⟨rfl, hi, hb, hk⟩; refine ⟨_, rfl, ?_⟩; have n0_ := aS (q0u.trans (by repeat (first | (with_reducible first | exact HK.out | apply q0u.set_ | apply q0z | apply q17 | apply q11) | exact HK.out)) hk (.inl rfl)); have n1_ := aS (hb); have n2_ := aS (hi); clear HK; clear HB; clear HI0; have HK := n0_; have HB := n1_; have HI0 := n2_; clear n0_ n1_ n2_; (try clear hb); (try clear hb2); (try clear hk); (try clear hi)))
         go_ret
         exact ⟨by first | rfl | (simp [q0b, q0a] <;> rfl) | (simp [*, q0b, q0a] <;> rfl), by repeat (first | (with_reducible first | exact HI0.out | apply q0d.alloc | apply q0d.drewN | apply q0d.drew | apply q0d.set_1) | exact HI0.out), by repeat (first | (with_reducible first | exact HB.out | apply bA | apply bN | apply bD | refine bS ?_ (q0d.ge HI0.out)) | exact HB.out), by repeat (first | (with_reducible first | exact HK.out | apply q0u.set_ | apply q0z | apply q17 | apply q11) | exact HK.out)⟩
        ·rw [if_neg c21] at H
         have c21b0 : (a2 == 7) = false := beq_eq_false_iff_ne.mpr c21
         have c21b1 : (a2 != 7) = true := bne_iff_ne.mpr c21
         by_cases c24 : 0 ≤ a1
         ·rw [if_pos c24] at H
          have c24b0 : decide (0 ≤ a1) = true := decide_eq_true c24
          clear c24
          by_cases c25 : a1 < (s0_0.length : Int)
          ·rw [if_pos c25] at H
           have c25b0 : decide (a1 < (s0_0.length : Int)) = true := decide_eq_true c25
           clear c25
           simp only [Option.some.injEq, Prod.mk.injEq] at H
           obtain ⟨rfl, rfl⟩ := H
           obtain ⟨ASz26_0, cSz26_0, HGz26, hgz26, HSz26_0⟩ := HI0.out
           have hcz26_0 := q2d HGz26
           have hcz26_1 := q2c HGz26
           have hfz26_1 := q01 HGz26 1
           clear HGz26 hgz26
           have p192 : 0 ≤ (a1 : Int) := od (by first | (with_reducible assumption) | assumption)
           have q192 : a1 < (s0_0.length : Int) := od (by first | (with_reducible assumption) | assumption)
           obtain ⟨ad192, A192_2, c192_2, A192_5, c192_5, e192, hx192_0, hx192_1, hx192_2, hx192_3, hx192_4, hx192_5, hl192_2, hi192_2, hl192_5, hi192_5⟩ := q1j HSz26_0 a1 p192 q192
           cases e192
           replace hx192_0 := q0e HB.out hx192_0
           replace hx192_1 := q0e HB.out hx192_1
           replace hx192_2 := q0e HB.out hx192_2
           replace hx192_3 := q0e HB.out hx192_3
           replace hx192_4 := q0e HB.out hx192_4
           replace hx192_5 := q0e HB.out hx192_5
           have HR192_2 := aS hi192_2
           have HC192_2 := aS hl192_2
           clear hi192_2 hl192_2
           have HR192_5 := aS hi192_5
           have HC192_5 := aS hl192_5
           clear hi192_5 hl192_5
           replace p192 := eq_true p192
           replace q192 := eq_true q192
           go_wp2
           go_ret
           exact ⟨by first | rfl | (simp [q0b, q0a] <;> rfl) | (simp [*, q0b, q0a] <;> rfl), by repeat (first | (with_reducible first | exact HI0.out | apply q0d.alloc | apply q0d.drewN | apply q0d.drew | apply q0d.set_1) | exact HI0.out), by repeat (first | (with_reducible first | exact HB.out | apply bA | apply bN | apply bD | refine bS ?_ (q0d.ge HI0.out)) | exact HB.out), by repeat (first | (with_reducible first | exact HK.out | apply q0u.set_ | apply q0z | apply q17 | apply q11) | exact HK.out)⟩
          ·rw [if_neg c25] at H
           exact absurd H (by simp)
         ·rw [if_neg c24] at H
          exact absurd H (by simp)
def q1k.f (k : Nat) (l0 : List S43) (a1 : Bool) (n how : Int) : Option (Int × Bool × Int) :=
 (q0g.f k l0 a1 []).bind fun e => if e = 0 then (if how < 1 ∨ how > 8 then some (0, false, 1) else (q0g.f k l0 a1 [n]).bind fun e2 => if e2 = 0 then
  ((q0x.f k l0 a1 n how).bind fun r => some (max r.1 0, decide (r.1 ≥ 0), 0)) else some (0, false, e2)) else some (0, false, e)
set_option maxHeartbeats 8000000 in
set_option maxRecDepth 100000 in
theorem q1k.calls (k : Nat) (A0 : Option Addr) (c0 : Nat) (l0 : List S43) (a1 : Bool) (n how : Int) (r1 : Int) (r2 : Bool) (r3 : Int) (w : World) (hr0 : Kd.C k43 w A0 l0.length l0) (hc0 : l0.length ≤ c0) (h : q1k.f k l0 a1 n how = some (r1, r2, r3)) :
 Calls Tryd.prog 16 #[.agg #[.slice A0 l0.length c0, .bool a1], .int .i64 n, .int .i64 how] w fun e w' => e = .returned (.tuple #[.int .i64 r1, .bool r2, .int .i64 r3]) ∧ Below w.heap.size w w' := by
 have hu24 := Tryd.underlying24
 unfold q1k.f at h
 obtain ⟨e0, he0, h⟩ := Option.bind_eq_some_iff.1 h
 have HE := aS he0
 have HR := aS hr0
 have HC := aS hc0
 have HB := aS (Below.refl w.heap.size w)
 clear he0 hr0 hc0
 by_cases z0 : e0 = 0
 ·subst z0
  rw [if_pos rfl] at h
  by_cases hh : how < 1 ∨ how > 8
  ·rw [if_pos hh] at h
   simp only [Option.some.injEq, Prod.mk.injEq] at h
   obtain ⟨rfl, rfl, rfl⟩ := h
   by_cases h1 : how < 1
   ·have h1b : decide (how < 1) = true := decide_eq_true h1
    clear hh h1
    go_enter Tryd.func16, Tryd.ntmps16
    go_wp2_with (first | ((with_reducible refine q15 (N := 3) rfl ?_); refine q0y ?hg (N := 3) ?hd (cs := #[.slice A0 l0.length c0, .bool a1]) (t := 24) ?hr ?_; (case hd => rfl); (case hg => rfl); (case hr => first | (go_simp; done) | (go_simp; rfl)); intro gb hg wb hbox hb; have n0_ := aS (q09 (by repeat (first | exact HB.out | apply bA | apply bN | apply bD)) hb); have BK := aS hbox; have hcz0 : wb.cell? ⟨gb, 0, none⟩ = some (.slice A0 l0.length c0) := (q02 BK.out 0).trans rfl; have hcz1 : wb.cell? ⟨gb, 1, none⟩ = some (.bool a1) := (q02 BK.out 1).trans rfl; clear HB; have HB := n0_; clear n0_ hg hbox hb) | (go_at_call 70; (with_reducible refine (q0g.nil0 k A0 c0 l0 a1 _ (Kd.C_below HR.out (by repeat (first | exact HB.out | apply bA | apply bN | apply bD))) HC.out HE.out).mono ?_); rintro e w1 ⟨hb, g1, rfl, hI⟩; have n0_ := aS (q09 (by repeat (first | exact HB.out | apply bA | apply bN | apply bD)) hb); obtain ⟨w0g1, hI, hIB, hIW⟩ : ∃ w0, q0d w0 w1 g1 l0 a1 ∧ Below w0.heap.size w0 w1 ∧ Below w.heap.size w w0 := ⟨_, hI, hb, (by repeat (first | exact HB.out | apply bA | apply bN | apply bD))⟩; clear HB; have HB := n0_; clear n0_; have HI := aS hI; have HIB := aS hIB; have HIW := aS hIW; clear hI hIB hIW; have BKn := aS (q0g.blk BK.out hb); clear BK; have BK := BKn; clear BKn; clear hcz0 hcz1; have hcz0 : w1.cell? ⟨gb, 0, none⟩ = some (.slice A0 l0.length c0) := (q02 BK.out 0).trans rfl; have hcz1 : w1.cell? ⟨gb, 1, none⟩ = some (.bool a1) := (q02 BK.out 1).trans rfl; clear hb))
    go_ret3
    exact ⟨rfl, (by repeat (first | exact HB.out | apply bA | apply bN | apply bD))⟩
   ·have h1b : decide (how < 1) = false := decide_eq_false h1
    have h2b : decide (8 < how) = true := decide_eq_true (by omega)
    clear hh h1
    go_enter Tryd.func16, Tryd.ntmps16
    go_wp2_with (first | ((with_reducible refine q15 (N := 3) rfl ?_); refine q0y ?hg (N := 3) ?hd (cs := #[.slice A0 l0.length c0, .bool a1]) (t := 24) ?hr ?_; (case hd => rfl); (case hg => rfl); (case hr => first | (go_simp; done) | (go_simp; rfl)); intro gb hg wb hbox hb; have n0_ := aS (q09 (by repeat (first | exact HB.out | apply bA | apply bN | apply bD)) hb); have BK := aS hbox; have hcz0 : wb.cell? ⟨gb, 0, none⟩ = some (.slice A0 l0.length c0) := (q02 BK.out 0).trans rfl; have hcz1 : wb.cell? ⟨gb, 1, none⟩ = some (.bool a1) := (q02 BK.out 1).trans rfl; clear HB; have HB := n0_; clear n0_ hg hbox hb) | (go_at_call 70; (with_reducible refine (q0g.nil0 k A0 c0 l0 a1 _ (Kd.C_below HR.out (by repeat (first | exact HB.out | apply bA | apply bN | apply bD))) HC.out HE.out).mono ?_); rintro e w1 ⟨hb, g1, rfl, hI⟩; have n0_ := aS (q09 (by repeat (first | exact HB.out | apply bA | apply bN | apply bD)) hb); obtain ⟨w0g1, hI, hIB, hIW⟩ : ∃ w0, q0d w0 w1 g1 l0 a1 ∧ Below w0.heap.size w0 w1 ∧ Below w.heap.size w w0 := ⟨_, hI, hb, (by repeat (first | exact HB.out | apply bA | apply bN | apply bD))⟩; clear HB; have HB := n0_; clear n0_; have HI := aS hI; have HIB := aS hIB; have HIW := aS hIW; clear hI hIB hIW; have BKn := aS (q0g.blk BK.out hb); clear BK; have BK := BKn; clear BKn; clear hcz0 hcz1; have hcz0 : w1.cell? ⟨gb, 0, none⟩ = some (.slice A0 l0.length c0) := (q02 BK.out 0).trans rfl; have hcz1 : w1.cell? ⟨gb, 1, none⟩ = some (.bool a1) := (q02 BK.out 1).trans rfl; clear hb))
    go_ret3
    exact ⟨rfl, (by repeat (first | exact HB.out | apply bA | apply bN | apply bD))⟩
  ·rw [if_neg hh] at h
   have h1b : decide (how < 1) = false := decide_eq_false (by omega)
   have h2b : decide (8 < how) = false := decide_eq_false (by omega)
   obtain ⟨e2, he2, h⟩ := Option.bind_eq_some_iff.1 h
   obtain ⟨ly, hly⟩ : ∃ ly : List Int, ly = [n] := ⟨_, rfl⟩
   rw [← hly] at he2
   have HLL : Aside0 (ly.length ≤ 4611686018427387904) := ⟨by rw [hly]; simp⟩
   have HLY := aS hly
   have HE2 := aS he2
   clear hh he2 hly
   by_cases z2 : e2 = 0
   ·subst z2
    rw [if_pos rfl] at h
    obtain ⟨⟨s1, s2⟩, hs, h⟩ := Option.bind_eq_some_iff.1 h
    have HS := aS hs
    simp only [Option.some.injEq, Prod.mk.injEq] at h
    obtain ⟨rfl, rfl, rfl⟩ := h
    clear hs
    by_cases z3 : s1 < 0
    ·have z3b : decide (0 ≤ s1) = false := decide_eq_false (by omega)
     have z3c : decide (s1 ≥ 0) = false := decide_eq_false (by omega)
     have z3m := aS (show max s1 0 = 0 by omega)
     rw [z3c]
     go_enter Tryd.func16, Tryd.ntmps16
     go_wp2_with (first | ((with_reducible refine q15 (N := 3) rfl ?_); refine q0y ?hg (N := 3) ?hd (cs := #[.slice A0 l0.length c0, .bool a1]) (t := 24) ?hr ?_; (case hd => rfl); (case hg => rfl); (case hr => first | (go_simp; done) | (go_simp; rfl)); intro gb hg wb hbox hb; have n0_ := aS (q09 (by repeat (first | exact HB.out | apply bA | apply bN | apply bD)) hb); have BK := aS hbox; have hcz0 : wb.cell? ⟨gb, 0, none⟩ = some (.slice A0 l0.length c0) := (q02 BK.out 0).trans rfl; have hcz1 : wb.cell? ⟨gb, 1, none⟩ = some (.bool a1) := (q02 BK.out 1).trans rfl; clear HB; have HB := n0_; clear n0_ hg hbox hb) | (go_at_call 70; (with_reducible refine (q0g.nil0 k A0 c0 l0 a1 _ (Kd.C_below HR.out (by repeat (first | exact HB.out | apply bA | apply bN | apply bD))) HC.out HE.out).mono ?_); rintro e w1 ⟨hb, g1, rfl, hI⟩; have n0_ := aS (q09 (by repeat (first | exact HB.out | apply bA | apply bN | apply bD)) hb); obtain ⟨w0g1, hI, hIB, hIW⟩ : ∃ w0, q0d w0 w1 g1 l0 a1 ∧ Below w0.heap.size w0 w1 ∧ Below w.heap.size w w0 := ⟨_, hI, hb, (by repeat (first | exact HB.out | apply bA | apply bN | apply bD))⟩; clear HB; have HB := n0_; clear n0_; have HI := aS hI; have HIB := aS hIB; have HIW := aS hIW; clear hI hIB hIW; have BKn := aS (q0g.blk BK.out hb); clear BK; have BK := BKn; clear BKn; clear hcz0 hcz1; have hcz0 : w1.cell? ⟨gb, 0, none⟩ = some (.slice A0 l0.length c0) := (q02 BK.out 0).trans rfl; have hcz1 : w1.cell? ⟨gb, 1, none⟩ = some (.bool a1) := (q02 BK.out 1).trans rfl; clear hb) | ((with_reducible refine q15 (N := 32) rfl ?_); refine Kd.R_lit (Kd.int .i64) _ 3 ?hg (N := 32) ?hd (xs := ([n] : List Int)) (inner := [.int .i64 n]) (ok := fun _ => True) (okp := fun _ => True) ?hr ?hp (fun _ hk => hk) trivial (Below.refl _ _) (Nat.le_refl _) (by simp) ?_; (case hd => rfl); (case hg => rfl); (case hr => first | (go_simp; done) | (go_simp; rfl)); (case hp => exact (Reps.one (show Kd.M (Kd.int .i64) _ _ _ n [.int .i64 n] from rfl) (Reps.none _ _))); intro vl wl hol hb hg_ hnew_; clear hg_ hnew_; (first | rw [← HLY.out] at hol | (simp only [Int.reduceToNat] at hol; rw [← HLY.out] at hol)); obtain ⟨Al, cl, el⟩ := Kd.R_slice hol; subst el; have n0_ := aS (q09 (by repeat (first | exact HB.out | apply bA | apply bN | apply bD)) hb); clear HB; have HB := n0_; clear n0_; have HRl := aS (Kd.R_reads' hol).2.2; have HCl := aS (Kd.R_reads' hol).2.1; clear hol; have BKn := aS (q0g.blk BK.out hb); clear BK; have BK := BKn; clear BKn; clear hcz0 hcz1; have hcz0 : wl.cell? ⟨gb, 0, none⟩ = some (.slice A0 l0.length c0) := (q02 BK.out 0).trans rfl; have hcz1 : wl.cell? ⟨gb, 1, none⟩ = some (.bool a1) := (q02 BK.out 1).trans rfl; clear hb) | (go_at_call 70; (with_reducible refine (q0g.calls0 k A0 c0 l0 a1 Al cl ly _ (Kd.C_below HR.out (by repeat (first | exact HB.out | apply bA | apply bN | apply bD))) HC.out (by repeat (first | (with_reducible exact HRl.out) | (with_reducible refine Kd.C_drewN ?_ _) | (with_reducible refine Kd.C_drew ?_) | (with_reducible refine Kd.C_alloc ?_ _))) HCl.out HLL.out HE2.out).mono ?_); rintro e w2 ⟨hb, g2, rfl, hI⟩; have n0_ := aS (q09 (by repeat (first | exact HB.out | apply bA | apply bN | apply bD)) hb); obtain ⟨w0g2, hI, hIB, hIW⟩ : ∃ w0, q0d w0 w2 g2 l0 a1 ∧ Below w0.heap.size w0 w2 ∧ Below w.heap.size w w0 := ⟨_, hI, hb, (by repeat (first | exact HB.out | apply bA | apply bN | apply bD))⟩; clear HB; have HB := n0_; clear n0_; have HI := aS hI; have HIB := aS hIB; have HIW := aS hIW; clear hI hIB hIW; have BKn := aS (q0g.blk BK.out hb); clear BK; have BK := BKn; clear BKn; clear hcz0 hcz1; have hcz0 : w2.cell? ⟨gb, 0, none⟩ = some (.slice A0 l0.length c0) := (q02 BK.out 0).trans rfl; have hcz1 : w2.cell? ⟨gb, 1, none⟩ = some (.bool a1) := (q02 BK.out 1).trans rfl; clear hb) | (go_at_call 71; (with_reducible refine (q0x.calls k g2 l0 a1 n how s1 s2 w0g2 _ (by repeat (first | (with_reducible exact HI.out) | (with_reducible apply q0d.alloc) | (with_reducible apply q0d.drewN) | (with_reducible apply q0d.drew))) (by repeat (first | exact HIB.out | apply bA | apply bN | apply bD)) HS.out).mono ?_); rintro e w9 ⟨rfl, hI9, hb9, hk9⟩; have n0_ := aS (q09 HIW.out hb9); clear HB HI; have HB := n0_; clear n0_ hI9 hb9 hk9))
     go_ret3
     exact ⟨(by first | rfl | (rw [z3m.out]; rfl)), (by repeat (first | exact HB.out | apply bA | apply bN | apply bD))⟩
    ·have z3b : decide (0 ≤ s1) = true := decide_eq_true (by omega)
     have z3c : decide (s1 ≥ 0) = true := decide_eq_true (by omega)
     have z3m := aS (show max s1 0 = s1 by omega)
     rw [z3c]
     go_enter Tryd.func16, Tryd.ntmps16
     go_wp2_with (first | ((with_reducible refine q15 (N := 3) rfl ?_); refine q0y ?hg (N := 3) ?hd (cs := #[.slice A0 l0.length c0, .bool a1]) (t := 24) ?hr ?_; (case hd => rfl); (case hg => rfl); (case hr => first | (go_simp; done) | (go_simp; rfl)); intro gb hg wb hbox hb; have n0_ := aS (q09 (by repeat (first | exact HB.out | apply bA | apply bN | apply bD)) hb); have BK := aS hbox; have hcz0 : wb.cell? ⟨gb, 0, none⟩ = some (.slice A0 l0.length c0) := (q02 BK.out 0).trans rfl; have hcz1 : wb.cell? ⟨gb, 1, none⟩ = some (.bool a1) := (q02 BK.out 1).trans rfl; clear HB; have HB := n0_; clear n0_ hg hbox hb) | (go_at_call 70; (with_reducible refine (q0g.nil0 k A0 c0 l0 a1 _ (Kd.C_below HR.out (by repeat (first | exact HB.out | apply bA | apply bN | apply bD))) HC.out HE.out).mono ?_); rintro e w1 ⟨hb, g1, rfl, hI⟩; have n0_ := aS (q09 (by repeat (first | exact HB.out | apply bA | apply bN | apply bD)) hb); obtain ⟨w0g1, hI, hIB, hIW⟩ : ∃ w0, q0d w0 w1 g1 l0 a1 ∧ Below w0.heap.size w0 w1 ∧ Below w.heap.size w w0 := ⟨_, hI, hb, (by repeat (first | exact HB.out | apply bA | apply bN | apply bD))⟩; clear HB; have HB := n0_; clear n0_; have HI := aS hI; have HIB := aS hIB; have HIW := aS hIW; clear hI hIB hIW; have BKn := aS (q0g.blk BK.out hb); clear BK; have BK := BKn; clear BKn; clear hcz0 hcz1; have hcz0 : w1.cell? ⟨gb, 0, none⟩ = some (.slice A0 l0.length c0) := (q02 BK.out 0).trans rfl; have hcz1 : w1.cell? ⟨gb, 1, none⟩ = some (.bool a1) := (q02 BK.out 1).trans rfl; clear hb) | ((with_reducible refine q15 (N := 32) rfl ?_); refine Kd.R_lit (Kd.int .i64) _ 3 ?hg (N := 32) ?hd (xs := ([n] : List Int)) (inner := [.int .i64 n]) (ok := fun _ => True) (okp := fun _ => True) ?hr ?hp (fun _ hk => hk) trivial (Below.refl _ _) (Nat.le_refl _) (by simp) ?_; (case hd => rfl); (case hg => rfl); (case hr => first | (go_simp; done) | (go_simp; rfl)); (case hp => exact (Reps.one (show Kd.M (Kd.int .i64) _ _ _ n [.int .i64 n] from rfl) (Reps.none _ _))); intro vl wl hol hb hg_ hnew_; clear hg_ hnew_; (first | rw [← HLY.out] at hol | (simp only [Int.reduceToNat] at hol; rw [← HLY.out] at hol)); obtain ⟨Al, cl, el⟩ := Kd.R_slice hol; subst el; have n0_ := aS (q09 (by repeat (first | exact HB.out | apply bA | apply bN | apply bD)) hb); clear HB; have HB := n0_; clear n0_; have HRl := aS (Kd.R_reads' hol).2.2; have HCl := aS (Kd.R_reads' hol).2.1; clear hol; have BKn := aS (q0g.blk BK.out hb); clear BK; have BK := BKn; clear BKn; clear hcz0 hcz1; have hcz0 : wl.cell? ⟨gb, 0, none⟩ = some (.slice A0 l0.length c0) := (q02 BK.out 0).trans rfl; have hcz1 : wl.cell? ⟨gb, 1, none⟩ = some (.bool a1) := (q02 BK.out 1).trans rfl; clear hb) | (go_at_call 70; (with_reducible refine (q0g.calls0 k A0 c0 l0 a1 Al cl ly _ (Kd.C_below HR.out (by repeat (first | exact HB.out | apply bA | apply bN | apply bD))) HC.out (by repeat (first | (with_reducible exact HRl.out) | (with_reducible refine Kd.C_drewN ?_ _) | (with_reducible refine Kd.C_drew ?_) | (with_reducible refine Kd.C_alloc ?_ _))) HCl.out HLL.out HE2.out).mono ?_); rintro e w2 ⟨hb, g2, rfl, hI⟩; have n0_ := aS (q09 (by repeat (first | exact HB.out | apply bA | apply bN | apply bD)) hb); obtain ⟨w0g2, hI, hIB, hIW⟩ : ∃ w0, q0d w0 w2 g2 l0 a1 ∧ Below w0.heap.size w0 w2 ∧ Below w.heap.size w w0 := ⟨_, hI, hb, (by repeat (first | exact HB.out | apply bA | apply bN | apply bD))⟩; clear HB; have HB := n0_; clear n0_; have HI := aS hI; have HIB := aS hIB; have HIW := aS hIW; clear hI hIB hIW; have BKn := aS (q0g.blk BK.out hb); clear BK; have BK := BKn; clear BKn; clear hcz0 hcz1; have hcz0 : w2.cell? ⟨gb, 0, none⟩ = some (.slice A0 l0.length c0) := (q02 BK.out 0).trans rfl; have hcz1 : w2.cell? ⟨gb, 1, none⟩ = some (.bool a1) := (q02 BK.out 1).trans rfl; clear hb) | (go_at_call 71; (with_reducible refine (q0x.calls k g2 l0 a1 n how s1 s2 w0g2 _ (by repeat (first | (with_reducible exact HI.out) | (with_reducible apply q0d.alloc) | (with_reducible apply q0d.drewN) | (with_reducible apply q0d.drew))) (by repeat (first | exact HIB.out | apply bA | apply bN | apply bD)) HS.out).mono ?_); rintro e w9 ⟨rfl, hI9, hb9, hk9⟩; have n0_ := aS (q09 HIW.out hb9); clear HB HI; have HB := n0_; clear n0_ hI9 hb9 hk9))
     go_ret3
     exact ⟨(by first | rfl | (rw [z3m.out]; rfl)), (by repeat (first | exact HB.out | apply bA | apply bN | apply bD))⟩
   ·rw [if_neg z2] at h
    simp only [Option.some.injEq, Prod.mk.injEq] at h
    obtain ⟨rfl, rfl, rfl⟩ := h
    have z2b : (e2 == 0) = false := beq_eq_false_iff_ne.mpr z2
    have z2c : (e2 != 0) = true := bne_iff_ne.mpr z2
    have Z2 := aS z2
    clear z2
    go_enter Tryd.func16, Tryd.ntmps16
    go_wp2_with (first | ((with_reducible refine q15 (N := 3) rfl ?_); refine q0y ?hg (N := 3) ?hd (cs := #[.slice A0 l0.length c0, .bool a1]) (t := 24) ?hr ?_; (case hd => rfl); (case hg => rfl); (case hr => first | (go_simp; done) | (go_simp; rfl)); intro gb hg wb hbox hb; have n0_ := aS (q09 (by repeat (first | exact HB.out | apply bA | apply bN | apply bD)) hb); have BK := aS hbox; have hcz0 : wb.cell? ⟨gb, 0, none⟩ = some (.slice A0 l0.length c0) := (q02 BK.out 0).trans rfl; have hcz1 : wb.cell? ⟨gb, 1, none⟩ = some (.bool a1) := (q02 BK.out 1).trans rfl; clear HB; have HB := n0_; clear n0_ hg hbox hb) | (go_at_call 70; (with_reducible refine (q0g.nil0 k A0 c0 l0 a1 _ (Kd.C_below HR.out (by repeat (first | exact HB.out | apply bA | apply bN | apply bD))) HC.out HE.out).mono ?_); rintro e w1 ⟨hb, g1, rfl, hI⟩; have n0_ := aS (q09 (by repeat (first | exact HB.out | apply bA | apply bN | apply bD)) hb); obtain ⟨w0g1, hI, hIB, hIW⟩ : ∃ w0, q0d w0 w1 g1 l0 a1 ∧ Below w0.heap.size w0 w1 ∧ Below w.heap.size w w0 := ⟨_, hI, hb, (by repeat (first | exact HB.out | apply bA | apply bN | apply bD))⟩; clear HB; have HB := n0_; clear n0_; have HI := aS hI; have HIB := aS hIB; have HIW := aS hIW; clear hI hIB hIW; have BKn := aS (q0g.blk BK.out hb); clear BK; have BK := BKn; clear BKn; clear hcz0 hcz1; have hcz0 : w1.cell? ⟨gb, 0, none⟩ = some (.slice A0 l0.length c0) := (q02 BK.out 0).trans rfl; have hcz1 : w1.cell? ⟨gb, 1, none⟩ = some (.bool a1) := (q02 BK.out 1).trans rfl; clear hb) | ((with_reducible refine q15 (N := 32) rfl ?_); refine Kd.R_lit (Kd.int .i64) _ 3 ?hg (N := 32) ?hd (xs := ([n] : List Int)) (inner := [.int .i64 n]) (ok := fun _ => True) (okp := fun _ => True) ?hr ?hp (fun _ hk => hk) trivial (Below.refl _ _) (Nat.le_refl _) (by simp) ?_; (case hd => rfl); (case hg => rfl); (case hr => first | (go_simp; done) | (go_simp; rfl)); (case hp => exact (Reps.one (show Kd.M (Kd.int .i64) _ _ _ n [.int .i64 n] from rfl) (Reps.none _ _))); intro vl wl hol hb hg_ hnew_; clear hg_ hnew_; (first | rw [← HLY.out] at hol | (simp only [Int.reduceToNat] at hol; rw [← HLY.out] at hol)); obtain ⟨Al, cl, el⟩ := Kd.R_slice hol; subst el; have n0_ := aS (q09 (by repeat (first | exact HB.out | apply bA | apply bN | apply bD)) hb); clear HB; have HB := n0_; clear n0_; have HRl := aS (Kd.R_reads' hol).2.2; have HCl := aS (Kd.R_reads' hol).2.1; clear hol; have BKn := aS (q0g.blk BK.out hb); clear BK; have BK := BKn; clear BKn; clear hcz0 hcz1; have hcz0 : wl.cell? ⟨gb, 0, none⟩ = some (.slice A0 l0.length c0) := (q02 BK.out 0).trans rfl; have hcz1 : wl.cell? ⟨gb, 1, none⟩ = some (.bool a1) := (q02 BK.out 1).trans rfl; clear hb) | (go_at_call 70; (with_reducible refine (q0g.callsE k A0 c0 l0 a1 Al cl ly e2 Z2.out _ (Kd.C_below HR.out (by repeat (first | exact HB.out | apply bA | apply bN | apply bD))) HC.out (by repeat (first | (with_reducible exact HRl.out) | (with_reducible refine Kd.C_drewN ?_ _) | (with_reducible refine Kd.C_drew ?_) | (with_reducible refine Kd.C_alloc ?_ _))) HCl.out HLL.out HE2.out).mono ?_); rintro e w2 ⟨hb, rfl⟩; have n0_ := aS (q09 (by repeat (first | exact HB.out | apply bA | apply bN | apply bD)) hb); clear HB; have HB := n0_; clear n0_; have BKn := aS (q0g.blk BK.out hb); clear BK; have BK := BKn; clear BKn; clear hcz0 hcz1; have hcz0 : w2.cell? ⟨gb, 0, none⟩ = some (.slice A0 l0.length c0) := (q02 BK.out 0).trans rfl; have hcz1 : w2.cell? ⟨gb, 1, none⟩ = some (.bool a1) := (q02 BK.out 1).trans rfl; clear hb))
    go_ret3
    exact ⟨rfl, (by repeat (first | exact HB.out | apply bA | apply bN | apply bD))⟩
 ·rw [if_neg z0] at h
  simp only [Option.some.injEq, Prod.mk.injEq] at h
  obtain ⟨rfl, rfl, rfl⟩ := h
  have z0b : (e0 == 0) = false := beq_eq_false_iff_ne.mpr z0
  have z0c : (e0 != 0) = true := bne_iff_ne.mpr z0
  have Z0 := aS z0
  clear z0
  go_enter Tryd.func16, Tryd.ntmps16
  go_wp2_with (first | ((with_reducible refine q15 (N := 3) rfl ?_); refine q0y ?hg (N := 3) ?hd (cs := #[.slice A0 l0.length c0, .bool a1]) (t := 24) ?hr ?_; (case hd => rfl); (case hg => rfl); (case hr => first | (go_simp; done) | (go_simp; rfl)); intro gb hg wb hbox hb; have n0_ := aS (q09 (by repeat (first | exact HB.out | apply bA | apply bN | apply bD)) hb); have BK := aS hbox; have hcz0 : wb.cell? ⟨gb, 0, none⟩ = some (.slice A0 l0.length c0) := (q02 BK.out 0).trans rfl; have hcz1 : wb.cell? ⟨gb, 1, none⟩ = some (.bool a1) := (q02 BK.out 1).trans rfl; clear HB; have HB := n0_; clear n0_ hg hbox hb) | (go_at_call 70; (with_reducible refine (q0g.nilE k A0 c0 l0 a1 e0 Z0.out _ (Kd.C_below HR.out (by repeat (first | exact HB.out | apply bA | apply bN | apply bD))) HC.out HE.out).mono ?_); rintro e w1 ⟨hb, rfl⟩; have n0_ := aS (q09 (by repeat (first | exact HB.out | apply bA | apply bN | apply bD)) hb); clear HB; have HB := n0_; clear n0_; have BKn := aS (q0g.blk BK.out hb); clear BK; have BK := BKn; clear BKn; clear hcz0 hcz1; have hcz0 : w1.cell? ⟨gb, 0, none⟩ = some (.slice A0 l0.length c0) := (q02 BK.out 0).trans rfl; have hcz1 : w1.cell? ⟨gb, 1, none⟩ = some (.bool a1) := (q02 BK.out 1).trans rfl; clear hb))
  go_ret3
  exact ⟨rfl, (by repeat (first | exact HB.out | apply bA | apply bN | apply bD))⟩
theorem q1k.mono (l0 : List S43) (a1 : Bool) (n how : Int) (k : Nat) : LeO (q1k.f k l0 a1 n how) (q1k.f (k + 1) l0 a1 n how) :=
 LeO.bind (q0g.mono l0 a1 [] k) fun _ => LeO.ite (LeO.ite (LeO.refl _) (LeO.bind (q0g.mono l0 a1 [n] k) fun _ => LeO.ite (LeO.bind (q0x.mono l0 a1 n how k) fun _ => LeO.refl _) (LeO.refl _))) (LeO.refl _)
def q0i.l0 : Nat → Int → Int → List (S43) → Bool → Option (Int)
 | 0, _, _, _, _ => none
 | k + 1, x1, x5, x194000, x194001 => if 0 ≤ x1 then (if x1 < (x194000.length : Int) then (if ((q05 x194000 x1).f4) ≥ 0 then (if (wrap64 (x5 + 1)) > (x194000.length : Int) then (some (-1)) else (q0i.l0 k ((q05 x194000 x1).f4) (wrap64 (x5 + 1)) x194000 x194001)) else (some x5)) else (none)) else (none)
def q0i.f (k : Nat) (l0_0 : List (S43)) (a0_1 : Bool) (a1 : Int) : Option (Int) := q0i.l0 k a1 0 l0_0 a0_1
theorem q0i.mono_l : ∀ k, (∀ y0 y1 y2 y3, LeO (q0i.l0 k y0 y1 y2 y3) (q0i.l0 (k + 1) y0 y1 y2 y3))
 | 0 => fun _ _ _ _ r h => by simp [q0i.l0] at h
 | k + 1 => by
  have ih0 := q0i.mono_l k
  ·intro y0 y1 y2 y3
   unfold q0i.l0
   repeat' first
   | (with_reducible exact ih0 _ _ _ _)
   | (with_reducible exact LeO.refl _)
   | (with_reducible exact LeO.none _)
   | (with_reducible refine LeO.ite ?_ ?_)
   | (with_reducible refine LeO.bind ?_ (fun _ => ?_))
   | exact ih0 _ _ _ _
   | exact LeO.none _
   | refine LeO.ite ?_ ?_
   | refine LeO.bind ?_ (fun _ => ?_)
theorem q0i.mono : ∀ a0 a1 a2 k, LeO (q0i.f k a0 a1 a2) (q0i.f (k + 1) a0 a1 a2) := by
 intro a0 a1 a2 k
 have ih0 := q0i.mono_l k
 unfold q0i.f
 repeat' first
  | (with_reducible exact ih0 _ _ _ _)
  | (with_reducible exact LeO.refl _)
  | (with_reducible exact LeO.none _)
  | (with_reducible refine LeO.ite ?_ ?_)
  | (with_reducible refine LeO.bind ?_ (fun _ => ?_))
  | exact ih0 _ _ _ _
  | exact LeO.none _
  | refine LeO.ite ?_ ?_
  | refine LeO.bind ?_ (fun _ => ?_)
set_option maxHeartbeats 8000000 in
set_option maxRecDepth 100000 in
theorem q0i.calls (k : Nat) (A0_0 : Option Addr) (c0_0 : Nat) (l0_0 : List (S43)) (a0_1 : Bool) (a1 : Int) (r : Int) (w : World) (hr0_0 : Kd.C k43 w A0_0 l0_0.length l0_0) (hc0_0 : l0_0.length ≤ c0_0) (h : q0i.f k l0_0 a0_1 a1 = some r) :
 Calls Tryd.prog 65 #[.agg #[.slice A0_0 l0_0.length c0_0, .bool a0_1], .int .i64 a1] w fun e w' => e = .returned (.int .i64 r) ∧ Below w.heap.size w w' := by
 have hu24 := Tryd.underlying24
 have HR0_0 := aS hr0_0
 have HC0_0 := aS hc0_0
 clear hr0_0 hc0_0
 have HB := aS (Below.refl w.heap.size w)
 have H : (q0i.l0 k a1 0 l0_0 a0_1) = some r := h
 clear h
 have H' := aS H
 clear H
 go_enter Tryd.func65, Tryd.ntmps65
 go_wp2_with (first | ((with_reducible refine q15 (N := 2) rfl ?_); refine q0y ?hg (N := 2) ?hd (cs := #[.slice A0_0 l0_0.length c0_0, .bool a0_1]) (t := 24) ?hr ?_; (case hd => rfl); (case hg => rfl); (case hr => first | (go_simp; done) | (go_simp; rfl)); intro gb193 hg w3 hbox hb; have n0_ := aS (q09 (by repeat (first | (with_reducible first | exact HB.out | apply bA | apply bN | apply bD) | exact HB.out)) hb); have n1_ := aS (hbox); have n2_ := aS ((by rw [hg]; exact (q0k (by repeat (first | (with_reducible first | exact HB.out | apply bA | apply bN | apply bD) | exact HB.out))) : w.heap.size ≤ gb193)); have n3_ := aS ((by rw [hg]; exact (q0k (by repeat (first | (with_reducible first | exact HB.out | apply bA | apply bN | apply bD) | exact HB.out))) : w.heap.size ≤ gb193)); clear HB; have HB := n0_; have BK193 := n1_; have GW193 := n2_; have GE193 := n3_; clear n0_ n1_ n2_ n3_; clear hb hbox hg))
 go_loopg [1, 5] k (fun kq v1 v5 w' => ∃ (x1_1 : Int) (x5_1 : Int), v1 = .int .i64 x1_1 ∧ v5 = .int .i64 x5_1 ∧ Aside0 (q0i.l0 kq x1_1 x5_1 l0_0 a0_1 = some r) ∧ Aside0 (kq ≤ k) ∧ Aside0 (w'.heap[gb193]? = some (.cells #[(.slice A0_0 l0_0.length c0_0), .bool a0_1] 24 (0, 0))) ∧ Aside0 (Below w.heap.size w w'))
 case atStart => exact ⟨(a1), (0), (by first | rfl | (simp; done) | simp [*]), (by first | rfl | (simp; done) | simp [*]), H', ⟨Nat.le_refl _⟩, ⟨by (with_reducible repeat (first | refine kN ?_ _ | refine kD ?_ | refine kA ?_ _)); exact BK193.out⟩, ⟨by repeat (first | (with_reducible first | exact HB.out | apply bA | apply bN | apply bD | refine bS ?_ GE193.out) | exact HB.out)⟩⟩
 case round =>
  clear H'
  try clear p2
  obtain ⟨x1_1, x5_1, rfl, rfl, HA, HK1, BK193, HB⟩ := hrel
  cases gk with
  | zero => exact absurd HA.out (by simp [q0i.l0])
  | succ k1 =>
   have H := HA.out
   clear HA
   simp only [q0i.l0] at H
   by_cases c4 : 0 ≤ x1_1
   ·rw [if_pos c4] at H
    have c4b0 : decide (0 ≤ x1_1) = true := decide_eq_true c4
    clear c4
    by_cases c5 : x1_1 < (l0_0.length : Int)
    ·rw [if_pos c5] at H
     have c5b0 : decide (x1_1 < (l0_0.length : Int)) = true := decide_eq_true c5
     clear c5
     by_cases c6 : ((q05 l0_0 x1_1).f4) ≥ 0
     ·rw [if_pos c6] at H
      have c6b0 : decide (0 ≤ ((q05 l0_0 x1_1).f4)) = true := decide_eq_true c6
      clear c6
      by_cases c7 : (wrap64 (x5_1 + 1)) > (l0_0.length : Int)
      ·rw [if_pos c7] at H
       have c7b0 : decide ((l0_0.length : Int) < (wrap64 (x5_1 + 1))) = true := decide_eq_true c7
       clear c7
       obtain rfl := Option.some.inj H
       have hcz8_0 : wr.cell? ⟨gb193, 0, none⟩ = some (.slice A0_0 l0_0.length c0_0) := (q02 BK193.out 0).trans rfl
       have hcz8_1 : wr.cell? ⟨gb193, 1, none⟩ = some (.bool a0_1) := (q02 BK193.out 1).trans rfl
       have hfz8_0 := q01 BK193.out 0
       have hfz8_1 := q01 BK193.out 1
       have p194 : 0 ≤ (x1_1 : Int) := od (by first | (with_reducible assumption) | assumption)
       have q194 : x1_1 < (l0_0.length : Int) := od (by first | (with_reducible assumption) | assumption)
       obtain ⟨ad194, A194_2, c194_2, A194_5, c194_5, e194, hx194_0, hx194_1, hx194_2, hx194_3, hx194_4, hx194_5, hl194_2, hi194_2, hl194_5, hi194_5⟩ := q1j HR0_0.out x1_1 p194 q194
       cases e194
       replace hx194_0 := (HB.out.cell (World.block_lt_of_cell? w _ hx194_0)).trans hx194_0
       replace hx194_1 := (HB.out.cell (World.block_lt_of_cell? w _ hx194_1)).trans hx194_1
       replace hx194_2 := (HB.out.cell (World.block_lt_of_cell? w _ hx194_2)).trans hx194_2
       replace hx194_3 := (HB.out.cell (World.block_lt_of_cell? w _ hx194_3)).trans hx194_3
       replace hx194_4 := (HB.out.cell (World.block_lt_of_cell? w _ hx194_4)).trans hx194_4
       replace hx194_5 := (HB.out.cell (World.block_lt_of_cell? w _ hx194_5)).trans hx194_5
       have HR194_2 := aS hi194_2
       have HC194_2 := aS hl194_2
       clear hi194_2 hl194_2
       have HR194_5 := aS hi194_5
       have HC194_5 := aS hl194_5
       clear hi194_5 hl194_5
       replace p194 := eq_true p194
       replace q194 := eq_true q194
       have p195 : 0 ≤ (x1_1 : Int) := od (by first | (with_reducible assumption) | assumption)
       have q195 : x1_1 < (l0_0.length : Int) := od (by first | (with_reducible assumption) | assumption)
       obtain ⟨ad195, A195_2, c195_2, A195_5, c195_5, e195, hx195_0, hx195_1, hx195_2, hx195_3, hx195_4, hx195_5, hl195_2, hi195_2, hl195_5, hi195_5⟩ := q1j HR0_0.out x1_1 p195 q195
       obtain rfl : ad194 = ad195 := (by injection e195)
       replace hx195_0 := (HB.out.cell (World.block_lt_of_cell? w _ hx195_0)).trans hx195_0
       replace hx195_1 := (HB.out.cell (World.block_lt_of_cell? w _ hx195_1)).trans hx195_1
       replace hx195_2 := (HB.out.cell (World.block_lt_of_cell? w _ hx195_2)).trans hx195_2
       replace hx195_3 := (HB.out.cell (World.block_lt_of_cell? w _ hx195_3)).trans hx195_3
       replace hx195_4 := (HB.out.cell (World.block_lt_of_cell? w _ hx195_4)).trans hx195_4
       replace hx195_5 := (HB.out.cell (World.block_lt_of_cell? w _ hx195_5)).trans hx195_5
       have HR195_2 := aS hi195_2
       have HC195_2 := aS hl195_2
       clear hi195_2 hl195_2
       have HR195_5 := aS hi195_5
       have HC195_5 := aS hl195_5
       clear hi195_5 hl195_5
       replace p195 := eq_true p195
       replace q195 := eq_true q195
       have ea_ := Option.some.inj (hx194_2.symm.trans hx195_2)
       injection ea_ with ea_ en_ ec_
       subst ea_
       subst ec_
       clear en_
       have ea_ := Option.some.inj (hx194_5.symm.trans hx195_5)
       injection ea_ with ea_ en_ ec_
       subst ea_
       subst ec_
       clear en_
       go_wp2
       go_ret
       exact ⟨by first | rfl | (simp [q0b, q0a] <;> rfl) | (simp [*, q0b, q0a] <;> rfl), by repeat (first | (with_reducible first | exact HB.out | apply bA | apply bN | apply bD | refine bS ?_ GE193.out) | exact HB.out)⟩
      ·rw [if_neg c7] at H
       have c7b0 : decide ((l0_0.length : Int) < (wrap64 (x5_1 + 1))) = false := decide_eq_false c7
       clear c7
       have H' := aS H
       clear H
       have hcz9_0 : wr.cell? ⟨gb193, 0, none⟩ = some (.slice A0_0 l0_0.length c0_0) := (q02 BK193.out 0).trans rfl
       have hcz9_1 : wr.cell? ⟨gb193, 1, none⟩ = some (.bool a0_1) := (q02 BK193.out 1).trans rfl
       have hfz9_0 := q01 BK193.out 0
       have hfz9_1 := q01 BK193.out 1
       have p194 : 0 ≤ (x1_1 : Int) := od (by first | (with_reducible assumption) | assumption)
       have q194 : x1_1 < (l0_0.length : Int) := od (by first | (with_reducible assumption) | assumption)
       obtain ⟨ad194, A194_2, c194_2, A194_5, c194_5, e194, hx194_0, hx194_1, hx194_2, hx194_3, hx194_4, hx194_5, hl194_2, hi194_2, hl194_5, hi194_5⟩ := q1j HR0_0.out x1_1 p194 q194
       cases e194
       replace hx194_0 := (HB.out.cell (World.block_lt_of_cell? w _ hx194_0)).trans hx194_0
       replace hx194_1 := (HB.out.cell (World.block_lt_of_cell? w _ hx194_1)).trans hx194_1
       replace hx194_2 := (HB.out.cell (World.block_lt_of_cell? w _ hx194_2)).trans hx194_2
       replace hx194_3 := (HB.out.cell (World.block_lt_of_cell? w _ hx194_3)).trans hx194_3
       replace hx194_4 := (HB.out.cell (World.block_lt_of_cell? w _ hx194_4)).trans hx194_4
       replace hx194_5 := (HB.out.cell (World.block_lt_of_cell? w _ hx194_5)).trans hx194_5
       have HR194_2 := aS hi194_2
       have HC194_2 := aS hl194_2
       clear hi194_2 hl194_2
       have HR194_5 := aS hi194_5
       have HC194_5 := aS hl194_5
       clear hi194_5 hl194_5
       replace p194 := eq_true p194
       replace q194 := eq_true q194
       have p195 : 0 ≤ (x1_1 : Int) := od (by first | (with_reducible assumption) | assumption)
       have q195 : x1_1 < (l0_0.length : Int) := od (by first | (with_reducible assumption) | assumption)
       obtain ⟨ad195, A195_2, c195_2, A195_5, c195_5, e195, hx195_0, hx195_1, hx195_2, hx195_3, hx195_4, hx195_5, hl195_2, hi195_2, hl195_5, hi195_5⟩ := q1j HR0_0.out x1_1 p195 q195
       obtain rfl : ad194 = ad195 := (by injection e195)
       replace hx195_0 := (HB.out.cell (World.block_lt_of_cell? w _ hx195_0)).trans hx195_0
       replace hx195_1 := (HB.out.cell (World.block_lt_of_cell? w _ hx195_1)).trans hx195_1
       replace hx195_2 := (HB.out.cell (World.block_lt_of_cell? w _ hx195_2)).trans hx195_2
       replace hx195_3 := (HB.out.cell (World.block_lt_of_cell? w _ hx195_3)).trans hx195_3
       replace hx195_4 := (HB.out.cell (World.block_lt_of_cell? w _ hx195_4)).trans hx195_4
       replace hx195_5 := (HB.out.cell (World.block_lt_of_cell? w _ hx195_5)).trans hx195_5
       have HR195_2 := aS hi195_2
       have HC195_2 := aS hl195_2
       clear hi195_2 hl195_2
       have HR195_5 := aS hi195_5
       have HC195_5 := aS hl195_5
       clear hi195_5 hl195_5
       replace p195 := eq_true p195
       replace q195 := eq_true q195
       have ea_ := Option.some.inj (hx194_2.symm.trans hx195_2)
       injection ea_ with ea_ en_ ec_
       subst ea_
       subst ec_
       clear en_
       have ea_ := Option.some.inj (hx194_5.symm.trans hx195_5)
       injection ea_ with ea_ en_ ec_
       subst ea_
       subst ec_
       clear en_
       go_wp2
       go_roundg k1
       case measure => have := HK1.out; omega
       case rel => exact ⟨((q05 l0_0 x1_1).f4), (wrap64 (x5_1 + 1)), (by first | rfl | (simp; done) | simp [*]), (by first | rfl | (simp; done) | simp [*]), H', ⟨by have := HK1.out; omega⟩, ⟨by (with_reducible repeat (first | refine kN ?_ _ | refine kD ?_ | refine kA ?_ _)); exact BK193.out⟩, ⟨by repeat (first | (with_reducible first | exact HB.out | apply bA | apply bN | apply bD | refine bS ?_ GE193.out) | exact HB.out)⟩⟩
     ·rw [if_neg c6] at H
      have c6b0 : decide (0 ≤ ((q05 l0_0 x1_1).f4)) = false := decide_eq_false c6
      clear c6
      obtain rfl := Option.some.inj H
      have hcz10_0 : wr.cell? ⟨gb193, 0, none⟩ = some (.slice A0_0 l0_0.length c0_0) := (q02 BK193.out 0).trans rfl
      have hcz10_1 : wr.cell? ⟨gb193, 1, none⟩ = some (.bool a0_1) := (q02 BK193.out 1).trans rfl
      have hfz10_0 := q01 BK193.out 0
      have hfz10_1 := q01 BK193.out 1
      have p194 : 0 ≤ (x1_1 : Int) := od (by first | (with_reducible assumption) | assumption)
      have q194 : x1_1 < (l0_0.length : Int) := od (by first | (with_reducible assumption) | assumption)
      obtain ⟨ad194, A194_2, c194_2, A194_5, c194_5, e194, hx194_0, hx194_1, hx194_2, hx194_3, hx194_4, hx194_5, hl194_2, hi194_2, hl194_5, hi194_5⟩ := q1j HR0_0.out x1_1 p194 q194
      cases e194
      replace hx194_0 := (HB.out.cell (World.block_lt_of_cell? w _ hx194_0)).trans hx194_0
      replace hx194_1 := (HB.out.cell (World.block_lt_of_cell? w _ hx194_1)).trans hx194_1
      replace hx194_2 := (HB.out.cell (World.block_lt_of_cell? w _ hx194_2)).trans hx194_2
      replace hx194_3 := (HB.out.cell (World.block_lt_of_cell? w _ hx194_3)).trans hx194_3
      replace hx194_4 := (HB.out.cell (World.block_lt_of_cell? w _ hx194_4)).trans hx194_4
      replace hx194_5 := (HB.out.cell (World.block_lt_of_cell? w _ hx194_5)).trans hx194_5
      have HR194_2 := aS hi194_2
      have HC194_2 := aS hl194_2
      clear hi194_2 hl194_2
      have HR194_5 := aS hi194_5
      have HC194_5 := aS hl194_5
      clear hi194_5 hl194_5
      replace p194 := eq_true p194
      replace q194 := eq_true q194
      go_wp2
      go_ret
      exact ⟨by first | rfl | (simp [q0b, q0a] <;> rfl) | (simp [*, q0b, q0a] <;> rfl), by repeat (first | (with_reducible first | exact HB.out | apply bA | apply bN | apply bD | refine bS ?_ GE193.out) | exact HB.out)⟩
    ·rw [if_neg c5] at H
     exact absurd H (by simp)
   ·rw [if_neg c4] at H
    exact absurd H (by simp)
def q0h.l0 : Nat → List (S122) → ByteArray → Int → Option (ByteArray × Bool)
 | 0, _, _, _ => none
 | k + 1, x0, x1, x6 => if x6 < (x0.length : Int) then (if 0 ≤ x6 then (if ((q0v x0 x6).f0).toList = x1.toList then (some ((q0v x0 x6).f1, true)) else (q0h.l0 k x0 x1 (wrap64 (x6 + 1)))) else (none)) else (some ((⟨#[]⟩ : ByteArray), false))
def q0h.f (k : Nat) (l0 : List (S122)) (a1 : ByteArray) : Option (ByteArray × Bool) := q0h.l0 k l0 a1 0
theorem q0h.mono_l : ∀ k, (∀ y0 y1 y2, LeO (q0h.l0 k y0 y1 y2) (q0h.l0 (k + 1) y0 y1 y2))
 | 0 => fun _ _ _ r h => by simp [q0h.l0] at h
 | k + 1 => by
  have ih0 := q0h.mono_l k
  ·intro y0 y1 y2
   unfold q0h.l0
   repeat' first
   | (with_reducible exact ih0 _ _ _)
   | (with_reducible exact LeO.refl _)
   | (with_reducible exact LeO.none _)
   | (with_reducible refine LeO.ite ?_ ?_)
   | (with_reducible refine LeO.bind ?_ (fun _ => ?_))
   | exact ih0 _ _ _
   | exact LeO.none _
   | refine LeO.ite ?_ ?_
   | refine LeO.bind ?_ (fun _ => ?_)
theorem q0h.mono : ∀ a0 a1 k, LeO (q0h.f k a0 a1) (q0h.f (k + 1) a0 a1) := by
 intro a0 a1 k
 have ih0 := q0h.mono_l k
 unfold q0h.f
 repeat' first
  | (with_reducible exact ih0 _ _ _)
  | (with_reducible exact LeO.refl _)
  | (with_reducible exact LeO.none _)
  | (with_reducible refine LeO.ite ?_ ?_)
  | (with_reducible refine LeO.bind ?_ (fun _ => ?_))
  | exact ih0 _ _ _
  | exact LeO.none _
  | refine LeO.ite ?_ ?_
  | refine LeO.bind ?_ (fun _ => ?_)
set_option maxHeartbeats 8000000 in
set_option maxRecDepth 100000 in
theorem q0h.calls (k : Nat) (A0 : Option Addr) (c0 : Nat) (l0 : List (S122)) (a1 : ByteArray) (r1 : ByteArray) (r2 : Bool) (w : World) (hr0 : Kd.C k122 w A0 l0.length l0) (hc0 : l0.length ≤ c0) (h : q0h.f k l0 a1 = some (r1, r2)) :
 Calls Tryd.prog 64 #[.slice A0 l0.length c0, .string a1] w fun e w' => e = .returned (.tuple #[.string r1, .bool r2]) ∧ Drawn0 w w' := by
 have HR0 := aS hr0
 have HC0 := aS hc0
 clear hr0 hc0
 have H : (q0h.l0 k l0 a1 0) = some (r1, r2) := h
 clear h
 have H' := aS H
 clear H
 go_enter Tryd.func64, Tryd.ntmps64
 go_wp2
 go_loopg [6] k (fun kq v6 w' => ∃ (x6_1 : Int), v6 = .int .i64 x6_1 ∧ Aside0 (q0h.l0 kq l0 a1 x6_1 = some (r1, r2)) ∧ Aside0 (kq ≤ k) ∧ Drawn0 w w')
 case atStart => exact ⟨(0), (by first | rfl | (simp; done) | simp [*]), H', ⟨Nat.le_refl _⟩, by repeat (first | exact Drawn0.refl _ | apply Drawn0.step)⟩
 case round =>
  clear H'
  try clear p2
  obtain ⟨x6_1, rfl, HA, HK1, ⟨m1, rfl⟩⟩ := hrel
  cases gk with
  | zero => exact absurd HA.out (by simp [q0h.l0])
  | succ k1 =>
   have H := HA.out
   clear HA
   simp only [q0h.l0] at H
   by_cases c3 : x6_1 < (l0.length : Int)
   ·rw [if_pos c3] at H
    have c3b0 : decide (x6_1 < (l0.length : Int)) = true := decide_eq_true c3
    clear c3
    by_cases c4 : 0 ≤ x6_1
    ·rw [if_pos c4] at H
     have c4b0 : decide (0 ≤ x6_1) = true := decide_eq_true c4
     clear c4
     by_cases c5 : ((q0v l0 x6_1).f0).toList = a1.toList
     ·rw [if_pos c5] at H
      have c5b0 : (((q0v l0 x6_1).f0).toList == a1.toList) = true := beq_iff_eq.mpr c5
      have c5b1 : (((q0v l0 x6_1).f0).toList != a1.toList) = false := bne_eq_false_iff_eq.mpr c5
      clear c5
      simp only [Option.some.injEq, Prod.mk.injEq] at H
      obtain ⟨rfl, rfl⟩ := H
      have p196 : 0 ≤ (x6_1 : Int) := od (by first | (with_reducible assumption) | assumption)
      have q196 : x6_1 < (l0.length : Int) := od (by first | (with_reducible assumption) | assumption)
      obtain ⟨ad196, e196, hx196_0, hx196_1⟩ := q1y HR0.out x6_1 p196 q196
      cases e196
      replace p196 := eq_true p196
      replace q196 := eq_true q196
      have p197 : 0 ≤ (x6_1 : Int) := od (by first | (with_reducible assumption) | assumption)
      have q197 : x6_1 < (l0.length : Int) := od (by first | (with_reducible assumption) | assumption)
      obtain ⟨ad197, e197, hx197_0, hx197_1⟩ := q1y HR0.out x6_1 p197 q197
      obtain rfl : ad196 = ad197 := (by injection e197)
      replace p197 := eq_true p197
      replace q197 := eq_true q197
      go_wp2
      go_ret2
      exact ⟨by first | rfl | (simp; done) | (simp [*]; done), by repeat (first | exact Drawn0.refl _ | apply Drawn0.step)⟩
     ·rw [if_neg c5] at H
      have c5b0 : (((q0v l0 x6_1).f0).toList == a1.toList) = false := beq_eq_false_iff_ne.mpr c5
      have c5b1 : (((q0v l0 x6_1).f0).toList != a1.toList) = true := bne_iff_ne.mpr c5
      have H' := aS H
      clear H
      have p196 : 0 ≤ (x6_1 : Int) := od (by first | (with_reducible assumption) | assumption)
      have q196 : x6_1 < (l0.length : Int) := od (by first | (with_reducible assumption) | assumption)
      obtain ⟨ad196, e196, hx196_0, hx196_1⟩ := q1y HR0.out x6_1 p196 q196
      cases e196
      replace p196 := eq_true p196
      replace q196 := eq_true q196
      go_wp2
      go_roundg k1
      case measure => have := HK1.out; omega
      case rel => exact ⟨(wrap64 (x6_1 + 1)), (by first | rfl | (simp; done) | simp [*]), H', ⟨by have := HK1.out; omega⟩, by repeat (first | exact Drawn0.refl _ | apply Drawn0.step)⟩
    ·rw [if_neg c4] at H
     exact absurd H (by simp)
   ·rw [if_neg c3] at H
    have c3b0 : decide (x6_1 < (l0.length : Int)) = false := decide_eq_false c3
    clear c3
    simp only [Option.some.injEq, Prod.mk.injEq] at H
    obtain ⟨rfl, rfl⟩ := H
    go_wp2
    go_ret2
    exact ⟨by first | rfl | (simp; done) | (simp [*]; done), by repeat (first | exact Drawn0.refl _ | apply Drawn0.step)⟩
def q0p.f (a0 : Int) (a1 : Int) (a2 : Int) : Option (Bool) := if a0 ≥ a1 then (some (decide (a0 ≤ a2))) else (some false)
set_option maxHeartbeats 8000000 in
set_option maxRecDepth 100000 in
theorem q0p.calls (a0 : Int) (a1 : Int) (a2 : Int) (r : Bool) (w : World) (h : q0p.f a0 a1 a2 = some r) :
 Calls Tryd.prog 73 #[.int .i64 a0, .int .i64 a1, .int .i64 a2] w fun e w' => e = .returned (.bool r) ∧ Drawn0 w w' := by
 have H : (if a0 ≥ a1 then (some (decide (a0 ≤ a2))) else (some false)) = some r := h
 clear h
 by_cases c4 : a0 ≥ a1
 ·rw [if_pos c4] at H
  have c4b0 : decide (a1 ≤ a0) = true := decide_eq_true c4
  clear c4
  obtain rfl := Option.some.inj H
  go_enter Tryd.func73, Tryd.ntmps73
  go_wp2
  go_ret
  exact ⟨by first | rfl | (simp; done) | (simp [*]; done), by repeat (first | exact Drawn0.refl _ | apply Drawn0.step)⟩
 ·rw [if_neg c4] at H
  have c4b0 : decide (a1 ≤ a0) = false := decide_eq_false c4
  clear c4
  obtain rfl := Option.some.inj H
  go_enter Tryd.func73, Tryd.ntmps73
  go_wp2
  go_ret
  exact ⟨by first | rfl | (simp; done) | (simp [*]; done), by repeat (first | exact Drawn0.refl _ | apply Drawn0.step)⟩
end Go.Proofs.YthjnallbbhnndaaDoor.XWk
