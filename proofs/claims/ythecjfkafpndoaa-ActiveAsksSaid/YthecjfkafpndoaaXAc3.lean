/- Written by this session's program (wip/xp) out of the translation as Lean prints it: for each Go function a Lean function and the proof that the code answers just so, on the conditions named in each statement. -/
import Derived.Test.YthecjfkafpndoaaXAc0
import Derived.Test.YthecjfkafpndoaaXAc2
namespace Go.Proofs.Ythecjfkafpndoaa.XAc
open Go.Proofs.Ythecjfkafpndoaa.Short Go.RowKit Go.Proofs.YthecjfkafpndoaaW.PrintWords Go.Proofs.YthecjfkafpndoaaW.PrintLast Go.Proofs.YthecjfkafpndoaaW.PrintMore
attribute [local go_sem] max2_int min2_int max_two min_two max_three min_three max_four min_four   -- for this text's walks alone
set_option linter.unusedVariables false
set_option linter.unusedSimpArgs false

/-! ### active_alike: function 87 -/
def active_alike.f (k : Nat) (a0_0 : Int) (a0_1 : ByteArray) (l0_2 : List (S99)) (a1_0 : Int) (a1_1 : ByteArray) (l1_2 : List (S99)) : Option (Bool) := if a0_1.toList = a1_1.toList then (if (l0_2.length : Int) = (l1_2.length : Int) then ((active_within.f k l0_2 l1_2).bind fun t120 => (if t120 = true then ((active_within.f k l1_2 l0_2).bind fun t121 => (some t121)) else (some false))) else (some false)) else (some false)
theorem active_alike.mono : ∀ a0 a1 a2 a3 a4 a5 k, LeO (active_alike.f k a0 a1 a2 a3 a4 a5) (active_alike.f (k + 1) a0 a1 a2 a3 a4 a5) := by
 intro a0 a1 a2 a3 a4 a5 k
 unfold active_alike.f
 repeat' first
  | (with_reducible exact active_within.mono _ _ _)
  | (with_reducible exact LeO.refl _)
  | (with_reducible exact LeO.none _)
  | (with_reducible refine LeO.ite ?_ ?_)
  | (with_reducible refine LeO.bind ?_ (fun _ => ?_))
  | exact active_within.mono _ _ _
  | exact LeO.none _
  | refine LeO.ite ?_ ?_
  | refine LeO.bind ?_ (fun _ => ?_)
set_option maxHeartbeats 8000000 in
set_option maxRecDepth 100000 in
theorem active_alike.calls (k : Nat) (a0_0 : Int) (a0_1 : ByteArray) (A0_2 : Option Addr) (c0_2 : Nat) (l0_2 : List (S99)) (a1_0 : Int) (a1_1 : ByteArray) (A1_2 : Option Addr) (c1_2 : Nat) (l1_2 : List (S99)) (r : Bool) (w : World) (hr0_2 : Kd.C k99 w A0_2 l0_2.length l0_2) (hc0_2 : l0_2.length ≤ c0_2) (hr1_2 : Kd.C k99 w A1_2 l1_2.length l1_2) (hc1_2 : l1_2.length ≤ c1_2) (h : active_alike.f k a0_0 a0_1 l0_2 a1_0 a1_1 l1_2 = some r) :
 Calls Try.prog 87 #[.agg #[.int .i64 a0_0, .string a0_1, .slice A0_2 l0_2.length c0_2], .agg #[.int .i64 a1_0, .string a1_1, .slice A1_2 l1_2.length c1_2]] w fun e w' => e = .returned (.bool r) ∧ Below w.heap.size w w' := by
 have hu25 := Try.underlying25
 have HR0_2 := aS hr0_2
 have HC0_2 := aS hc0_2
 clear hr0_2 hc0_2
 have HR1_2 := aS hr1_2
 have HC1_2 := aS hc1_2
 clear hr1_2 hc1_2
 have HB := aS (Below.refl w.heap.size w)
 have H : (if a0_1.toList = a1_1.toList then (if (l0_2.length : Int) = (l1_2.length : Int) then ((active_within.f k l0_2 l1_2).bind fun t120 => (if t120 = true then ((active_within.f k l1_2 l0_2).bind fun t121 => (some t121)) else (some false))) else (some false)) else (some false)) = some r := h
 clear h
 by_cases c3 : a0_1.toList = a1_1.toList
 ·rw [if_pos c3] at H
  have c3b0 : (a0_1.toList == a1_1.toList) = true := beq_iff_eq.mpr c3
  have c3b1 : (a0_1.toList != a1_1.toList) = false := bne_eq_false_iff_eq.mpr c3
  clear c3
  by_cases c4 : (l0_2.length : Int) = (l1_2.length : Int)
  ·rw [if_pos c4] at H
   have c4b0 : ((l0_2.length : Int) == (l1_2.length : Int)) = true := beq_iff_eq.mpr c4
   have c4b1 : ((l0_2.length : Int) != (l1_2.length : Int)) = false := bne_eq_false_iff_eq.mpr c4
   have c4b2 : (l0_2.length == l1_2.length) = true := by first | simpa using c4 | (simp at c4 ⊢; omega)
   clear c4
   replace H := Option.bind_eq_some_iff.mp H
   obtain ⟨t120, A50, H⟩ := H
   replace H : (if t120 = true then ((active_within.f k l1_2 l0_2).bind fun t121 => (some t121)) else (some false)) = some r := H
   have A5 := aS A50
   clear A50
   by_cases c6 : t120 = true
   ·subst c6
    have H1 : ((active_within.f k l1_2 l0_2).bind fun t121 => (some t121)) = some r := by rw [if_pos rfl] at H; exact H
    clear H
    have H := H1
    clear H1
    replace H := Option.bind_eq_some_iff.mp H
    obtain ⟨t121, A70, H⟩ := H
    replace H : (some t121) = some r := H
    have A7 := aS A70
    clear A70
    obtain rfl := Option.some.inj H
    go_enter Try.func87, Try.ntmps87
    go_wp2_with (first | ((with_reducible refine gate_dst (N := 2) rfl ?_); (try (refine gate_guard (by rfl) ?_; dsimp only)); refine box_event ?hg (N := 2) ?hd (cs := #[.int .i64 a0_0, .string a0_1, .slice A0_2 l0_2.length c0_2]) (t := 25) ?hr ?_; (case hd => rfl); (case hg => rfl); (case hr => first | (go_simp; done) | (go_simp; rfl)); intro gb118 hg w8 hbox hb; have n0_ := aS (below_step (by repeat (first | (with_reducible first | exact HB.out | apply bA | apply bN | apply bD) | exact HB.out)) hb); have n1_ := aS (hbox); have n2_ := aS ((by rw [hg]; exact (below_size (by repeat (first | (with_reducible first | exact HB.out | apply bA | apply bN | apply bD) | exact HB.out))) : w.heap.size ≤ gb118)); have n3_ := aS ((by rw [hg]; exact (below_size (by repeat (first | (with_reducible first | exact HB.out | apply bA | apply bN | apply bD) | exact HB.out))) : w.heap.size ≤ gb118)); clear HB; have HB := n0_; have BK118 := n1_; have GW118 := n2_; have GE118 := n3_; clear n0_ n1_ n2_ n3_; clear hb hbox hg) | ((with_reducible refine gate_dst (N := 3) rfl ?_); (try (refine gate_guard (by rfl) ?_; dsimp only)); refine box_event ?hg (N := 3) ?hd (cs := #[.int .i64 a1_0, .string a1_1, .slice A1_2 l1_2.length c1_2]) (t := 25) ?hr ?_; (case hd => rfl); (case hg => rfl); (case hr => first | (go_simp; done) | (go_simp; rfl)); intro gb119 hg w9 hbox hb; have n0_ := aS (blk_below (g := gb118) (o := .cells #[.int .i64 a0_0, .string a0_1, .slice A0_2 l0_2.length c0_2] 25 (0, 0)) (by (with_reducible repeat (first | refine kN ?_ _ | refine kD ?_ | refine kA ?_ _)); exact BK118.out) hb); have n1_ := aS (below_step (by repeat (first | (with_reducible first | exact HB.out | apply bA | apply bN | apply bD | refine bS ?_ GE118.out) | exact HB.out)) hb); have n2_ := aS (hbox); have n3_ := aS ((by rw [hg]; exact (below_size (by repeat (first | (with_reducible first | exact HB.out | apply bA | apply bN | apply bD | refine bS ?_ GE118.out) | exact HB.out))) : w.heap.size ≤ gb119)); have n4_ := aS ((by rw [hg]; exact (below_size (by repeat (first | (with_reducible first | exact HB.out | apply bA | apply bN | apply bD | refine bS ?_ GE118.out) | exact HB.out))) : w.heap.size ≤ gb119)); have n5_ := aS ((by rw [hg]; exact Nat.ne_of_lt (blk_lt (g := gb118) (o := .cells #[.int .i64 a0_0, .string a0_1, .slice A0_2 l0_2.length c0_2] 25 (0, 0)) (by (with_reducible repeat (first | refine kN ?_ _ | refine kD ?_ | refine kA ?_ _)); exact BK118.out)) : gb118 ≠ gb119)); have n6_ := aS ((by rw [hg]; exact Nat.ne_of_gt (blk_lt (g := gb118) (o := .cells #[.int .i64 a0_0, .string a0_1, .slice A0_2 l0_2.length c0_2] 25 (0, 0)) (by (with_reducible repeat (first | refine kN ?_ _ | refine kD ?_ | refine kA ?_ _)); exact BK118.out)) : gb119 ≠ gb118)); clear BK118; clear HB; have BK118 := n0_; have HB := n1_; have BK119 := n2_; have GW119 := n3_; have GE119 := n4_; have NB118_119 := n5_; have NB119_118 := n6_; clear n0_ n1_ n2_ n3_ n4_ n5_ n6_; clear hb hbox hg; have hnb10 := NB118_119.out; have hnc10 := NB119_118.out; have hcz11_0 : w9.cell? ⟨gb118, 0, none⟩ = some (.int .i64 a0_0) := (blk_cell BK118.out 0).trans rfl; have hcz11_1 : w9.cell? ⟨gb118, 1, none⟩ = some (.string a0_1) := (blk_cell BK118.out 1).trans rfl; have hcz11_2 : w9.cell? ⟨gb118, 2, none⟩ = some (.slice A0_2 l0_2.length c0_2) := (blk_cell BK118.out 2).trans rfl; have hfz11_0 := blk_frozen BK118.out 0; have hfz11_1 := blk_frozen BK118.out 1; have hfz11_2 := blk_frozen BK118.out 2; have hcz12_0 : w9.cell? ⟨gb119, 0, none⟩ = some (.int .i64 a1_0) := (blk_cell BK119.out 0).trans rfl; have hcz12_1 : w9.cell? ⟨gb119, 1, none⟩ = some (.string a1_1) := (blk_cell BK119.out 1).trans rfl; have hcz12_2 : w9.cell? ⟨gb119, 2, none⟩ = some (.slice A1_2 l1_2.length c1_2) := (blk_cell BK119.out 2).trans rfl; have hfz12_0 := blk_frozen BK119.out 0; have hfz12_1 := blk_frozen BK119.out 1; have hfz12_2 := blk_frozen BK119.out 2) | (go_at_call 110; (with_reducible refine (active_within.calls k _ _ l0_2 _ _ l1_2 true _ ?side1 ?side2 ?side3 ?side4 A5.out).mono ?_); (case side1 => repeat (first | exact (Kd.C_below HR0_2.out HB.out) | (with_reducible refine cA ?_ _) | (with_reducible refine cN ?_ _) | (with_reducible refine cD ?_))); (case side2 => exact HC0_2.out); (case side3 => repeat (first | exact (Kd.C_below HR1_2.out HB.out) | (with_reducible refine cA ?_ _) | (with_reducible refine cN ?_ _) | (with_reducible refine cD ?_))); (case side4 => exact HC1_2.out); rintro e w13 ⟨rfl, hb⟩; have n0_ := aS (blk_below (g := gb118) (o := .cells #[.int .i64 a0_0, .string a0_1, .slice A0_2 l0_2.length c0_2] 25 (0, 0)) (by (with_reducible repeat (first | refine kN ?_ _ | refine kD ?_ | refine kA ?_ _)); exact BK118.out) hb); have n1_ := aS (blk_below (g := gb119) (o := .cells #[.int .i64 a1_0, .string a1_1, .slice A1_2 l1_2.length c1_2] 25 (0, 0)) (by (with_reducible repeat (first | refine kN ?_ _ | refine kD ?_ | refine kA ?_ _)); exact BK119.out) hb); have n2_ := aS (below_step (by repeat (first | (with_reducible first | exact HB.out | apply bA | apply bN | apply bD | refine bS ?_ GE118.out | refine bS ?_ GE119.out) | exact HB.out)) hb); clear BK118; clear BK119; clear HB; have BK118 := n0_; have BK119 := n1_; have HB := n2_; clear n0_ n1_ n2_; (try clear hb); (try clear hb2); (try clear hk); (try clear hi); have hcz14_0 : w13.cell? ⟨gb119, 0, none⟩ = some (.int .i64 a1_0) := (blk_cell BK119.out 0).trans rfl; have hcz14_1 : w13.cell? ⟨gb119, 1, none⟩ = some (.string a1_1) := (blk_cell BK119.out 1).trans rfl; have hcz14_2 : w13.cell? ⟨gb119, 2, none⟩ = some (.slice A1_2 l1_2.length c1_2) := (blk_cell BK119.out 2).trans rfl; have hfz14_0 := blk_frozen BK119.out 0; have hfz14_1 := blk_frozen BK119.out 1; have hfz14_2 := blk_frozen BK119.out 2; have hcz15_0 : w13.cell? ⟨gb118, 0, none⟩ = some (.int .i64 a0_0) := (blk_cell BK118.out 0).trans rfl; have hcz15_1 : w13.cell? ⟨gb118, 1, none⟩ = some (.string a0_1) := (blk_cell BK118.out 1).trans rfl; have hcz15_2 : w13.cell? ⟨gb118, 2, none⟩ = some (.slice A0_2 l0_2.length c0_2) := (blk_cell BK118.out 2).trans rfl; have hfz15_0 := blk_frozen BK118.out 0; have hfz15_1 := blk_frozen BK118.out 1; have hfz15_2 := blk_frozen BK118.out 2) | (go_at_call 110; (with_reducible refine (active_within.calls k _ _ l1_2 _ _ l0_2 t121 _ ?side1 ?side2 ?side3 ?side4 A7.out).mono ?_); (case side1 => repeat (first | exact (Kd.C_below HR1_2.out HB.out) | (with_reducible refine cA ?_ _) | (with_reducible refine cN ?_ _) | (with_reducible refine cD ?_))); (case side2 => exact HC1_2.out); (case side3 => repeat (first | exact (Kd.C_below HR0_2.out HB.out) | (with_reducible refine cA ?_ _) | (with_reducible refine cN ?_ _) | (with_reducible refine cD ?_))); (case side4 => exact HC0_2.out); rintro e w16 ⟨rfl, hb⟩; have n0_ := aS (blk_below (g := gb118) (o := .cells #[.int .i64 a0_0, .string a0_1, .slice A0_2 l0_2.length c0_2] 25 (0, 0)) (by (with_reducible repeat (first | refine kN ?_ _ | refine kD ?_ | refine kA ?_ _)); exact BK118.out) hb); have n1_ := aS (blk_below (g := gb119) (o := .cells #[.int .i64 a1_0, .string a1_1, .slice A1_2 l1_2.length c1_2] 25 (0, 0)) (by (with_reducible repeat (first | refine kN ?_ _ | refine kD ?_ | refine kA ?_ _)); exact BK119.out) hb); have n2_ := aS (below_step (by repeat (first | (with_reducible first | exact HB.out | apply bA | apply bN | apply bD | refine bS ?_ GE118.out | refine bS ?_ GE119.out) | exact HB.out)) hb); clear BK118; clear BK119; clear HB; have BK118 := n0_; have BK119 := n1_; have HB := n2_; clear n0_ n1_ n2_; (try clear hb); (try clear hb2); (try clear hk); (try clear hi)))
    go_ret
    exact ⟨by first | rfl | (simp [errW_none, errW_some] <;> rfl) | (simp [*, errW_none, errW_some] <;> rfl), by repeat (first | (with_reducible first | exact HB.out | apply bA | apply bN | apply bD | refine bS ?_ GE118.out | refine bS ?_ GE119.out) | exact HB.out)⟩
   ·replace c6 := Bool.eq_false_iff.mpr c6
    subst c6
    have H1 : (some false) = some r := by rw [if_neg (show ¬ (false = true) by decide)] at H; exact H
    clear H
    have H := H1
    clear H1
    obtain rfl := Option.some.inj H
    go_enter Try.func87, Try.ntmps87
    go_wp2_with (first | ((with_reducible refine gate_dst (N := 2) rfl ?_); (try (refine gate_guard (by rfl) ?_; dsimp only)); refine box_event ?hg (N := 2) ?hd (cs := #[.int .i64 a0_0, .string a0_1, .slice A0_2 l0_2.length c0_2]) (t := 25) ?hr ?_; (case hd => rfl); (case hg => rfl); (case hr => first | (go_simp; done) | (go_simp; rfl)); intro gb118 hg w17 hbox hb; have n0_ := aS (below_step (by repeat (first | (with_reducible first | exact HB.out | apply bA | apply bN | apply bD) | exact HB.out)) hb); have n1_ := aS (hbox); have n2_ := aS ((by rw [hg]; exact (below_size (by repeat (first | (with_reducible first | exact HB.out | apply bA | apply bN | apply bD) | exact HB.out))) : w.heap.size ≤ gb118)); have n3_ := aS ((by rw [hg]; exact (below_size (by repeat (first | (with_reducible first | exact HB.out | apply bA | apply bN | apply bD) | exact HB.out))) : w.heap.size ≤ gb118)); clear HB; have HB := n0_; have BK118 := n1_; have GW118 := n2_; have GE118 := n3_; clear n0_ n1_ n2_ n3_; clear hb hbox hg) | ((with_reducible refine gate_dst (N := 3) rfl ?_); (try (refine gate_guard (by rfl) ?_; dsimp only)); refine box_event ?hg (N := 3) ?hd (cs := #[.int .i64 a1_0, .string a1_1, .slice A1_2 l1_2.length c1_2]) (t := 25) ?hr ?_; (case hd => rfl); (case hg => rfl); (case hr => first | (go_simp; done) | (go_simp; rfl)); intro gb119 hg w18 hbox hb; have n0_ := aS (blk_below (g := gb118) (o := .cells #[.int .i64 a0_0, .string a0_1, .slice A0_2 l0_2.length c0_2] 25 (0, 0)) (by (with_reducible repeat (first | refine kN ?_ _ | refine kD ?_ | refine kA ?_ _)); exact BK118.out) hb); have n1_ := aS (below_step (by repeat (first | (with_reducible first | exact HB.out | apply bA | apply bN | apply bD | refine bS ?_ GE118.out) | exact HB.out)) hb); have n2_ := aS (hbox); have n3_ := aS ((by rw [hg]; exact (below_size (by repeat (first | (with_reducible first | exact HB.out | apply bA | apply bN | apply bD | refine bS ?_ GE118.out) | exact HB.out))) : w.heap.size ≤ gb119)); have n4_ := aS ((by rw [hg]; exact (below_size (by repeat (first | (with_reducible first | exact HB.out | apply bA | apply bN | apply bD | refine bS ?_ GE118.out) | exact HB.out))) : w.heap.size ≤ gb119)); have n5_ := aS ((by rw [hg]; exact Nat.ne_of_lt (blk_lt (g := gb118) (o := .cells #[.int .i64 a0_0, .string a0_1, .slice A0_2 l0_2.length c0_2] 25 (0, 0)) (by (with_reducible repeat (first | refine kN ?_ _ | refine kD ?_ | refine kA ?_ _)); exact BK118.out)) : gb118 ≠ gb119)); have n6_ := aS ((by rw [hg]; exact Nat.ne_of_gt (blk_lt (g := gb118) (o := .cells #[.int .i64 a0_0, .string a0_1, .slice A0_2 l0_2.length c0_2] 25 (0, 0)) (by (with_reducible repeat (first | refine kN ?_ _ | refine kD ?_ | refine kA ?_ _)); exact BK118.out)) : gb119 ≠ gb118)); clear BK118; clear HB; have BK118 := n0_; have HB := n1_; have BK119 := n2_; have GW119 := n3_; have GE119 := n4_; have NB118_119 := n5_; have NB119_118 := n6_; clear n0_ n1_ n2_ n3_ n4_ n5_ n6_; clear hb hbox hg; have hnb19 := NB118_119.out; have hnc19 := NB119_118.out; have hcz20_0 : w18.cell? ⟨gb118, 0, none⟩ = some (.int .i64 a0_0) := (blk_cell BK118.out 0).trans rfl; have hcz20_1 : w18.cell? ⟨gb118, 1, none⟩ = some (.string a0_1) := (blk_cell BK118.out 1).trans rfl; have hcz20_2 : w18.cell? ⟨gb118, 2, none⟩ = some (.slice A0_2 l0_2.length c0_2) := (blk_cell BK118.out 2).trans rfl; have hfz20_0 := blk_frozen BK118.out 0; have hfz20_1 := blk_frozen BK118.out 1; have hfz20_2 := blk_frozen BK118.out 2; have hcz21_0 : w18.cell? ⟨gb119, 0, none⟩ = some (.int .i64 a1_0) := (blk_cell BK119.out 0).trans rfl; have hcz21_1 : w18.cell? ⟨gb119, 1, none⟩ = some (.string a1_1) := (blk_cell BK119.out 1).trans rfl; have hcz21_2 : w18.cell? ⟨gb119, 2, none⟩ = some (.slice A1_2 l1_2.length c1_2) := (blk_cell BK119.out 2).trans rfl; have hfz21_0 := blk_frozen BK119.out 0; have hfz21_1 := blk_frozen BK119.out 1; have hfz21_2 := blk_frozen BK119.out 2) | (go_at_call 110; (with_reducible refine (active_within.calls k _ _ l0_2 _ _ l1_2 false _ ?side1 ?side2 ?side3 ?side4 A5.out).mono ?_); (case side1 => repeat (first | exact (Kd.C_below HR0_2.out HB.out) | (with_reducible refine cA ?_ _) | (with_reducible refine cN ?_ _) | (with_reducible refine cD ?_))); (case side2 => exact HC0_2.out); (case side3 => repeat (first | exact (Kd.C_below HR1_2.out HB.out) | (with_reducible refine cA ?_ _) | (with_reducible refine cN ?_ _) | (with_reducible refine cD ?_))); (case side4 => exact HC1_2.out); rintro e w22 ⟨rfl, hb⟩; have n0_ := aS (blk_below (g := gb118) (o := .cells #[.int .i64 a0_0, .string a0_1, .slice A0_2 l0_2.length c0_2] 25 (0, 0)) (by (with_reducible repeat (first | refine kN ?_ _ | refine kD ?_ | refine kA ?_ _)); exact BK118.out) hb); have n1_ := aS (blk_below (g := gb119) (o := .cells #[.int .i64 a1_0, .string a1_1, .slice A1_2 l1_2.length c1_2] 25 (0, 0)) (by (with_reducible repeat (first | refine kN ?_ _ | refine kD ?_ | refine kA ?_ _)); exact BK119.out) hb); have n2_ := aS (below_step (by repeat (first | (with_reducible first | exact HB.out | apply bA | apply bN | apply bD | refine bS ?_ GE118.out | refine bS ?_ GE119.out) | exact HB.out)) hb); clear BK118; clear BK119; clear HB; have BK118 := n0_; have BK119 := n1_; have HB := n2_; clear n0_ n1_ n2_; (try clear hb); (try clear hb2); (try clear hk); (try clear hi)))
    go_ret
    exact ⟨by first | rfl | (simp [errW_none, errW_some] <;> rfl) | (simp [*, errW_none, errW_some] <;> rfl), by repeat (first | (with_reducible first | exact HB.out | apply bA | apply bN | apply bD | refine bS ?_ GE118.out | refine bS ?_ GE119.out) | exact HB.out)⟩
  ·rw [if_neg c4] at H
   have c4b0 : ((l0_2.length : Int) == (l1_2.length : Int)) = false := beq_eq_false_iff_ne.mpr c4
   have c4b1 : ((l0_2.length : Int) != (l1_2.length : Int)) = true := bne_iff_ne.mpr c4
   have c4b2 : (l0_2.length == l1_2.length) = false := by first | simpa using c4 | (simp at c4 ⊢; omega)
   obtain rfl := Option.some.inj H
   go_enter Try.func87, Try.ntmps87
   go_wp2_with (first | ((with_reducible refine gate_dst (N := 2) rfl ?_); (try (refine gate_guard (by rfl) ?_; dsimp only)); refine box_event ?hg (N := 2) ?hd (cs := #[.int .i64 a0_0, .string a0_1, .slice A0_2 l0_2.length c0_2]) (t := 25) ?hr ?_; (case hd => rfl); (case hg => rfl); (case hr => first | (go_simp; done) | (go_simp; rfl)); intro gb118 hg w23 hbox hb; have n0_ := aS (below_step (by repeat (first | (with_reducible first | exact HB.out | apply bA | apply bN | apply bD) | exact HB.out)) hb); have n1_ := aS (hbox); have n2_ := aS ((by rw [hg]; exact (below_size (by repeat (first | (with_reducible first | exact HB.out | apply bA | apply bN | apply bD) | exact HB.out))) : w.heap.size ≤ gb118)); have n3_ := aS ((by rw [hg]; exact (below_size (by repeat (first | (with_reducible first | exact HB.out | apply bA | apply bN | apply bD) | exact HB.out))) : w.heap.size ≤ gb118)); clear HB; have HB := n0_; have BK118 := n1_; have GW118 := n2_; have GE118 := n3_; clear n0_ n1_ n2_ n3_; clear hb hbox hg) | ((with_reducible refine gate_dst (N := 3) rfl ?_); (try (refine gate_guard (by rfl) ?_; dsimp only)); refine box_event ?hg (N := 3) ?hd (cs := #[.int .i64 a1_0, .string a1_1, .slice A1_2 l1_2.length c1_2]) (t := 25) ?hr ?_; (case hd => rfl); (case hg => rfl); (case hr => first | (go_simp; done) | (go_simp; rfl)); intro gb119 hg w24 hbox hb; have n0_ := aS (blk_below (g := gb118) (o := .cells #[.int .i64 a0_0, .string a0_1, .slice A0_2 l0_2.length c0_2] 25 (0, 0)) (by (with_reducible repeat (first | refine kN ?_ _ | refine kD ?_ | refine kA ?_ _)); exact BK118.out) hb); have n1_ := aS (below_step (by repeat (first | (with_reducible first | exact HB.out | apply bA | apply bN | apply bD | refine bS ?_ GE118.out) | exact HB.out)) hb); have n2_ := aS (hbox); have n3_ := aS ((by rw [hg]; exact (below_size (by repeat (first | (with_reducible first | exact HB.out | apply bA | apply bN | apply bD | refine bS ?_ GE118.out) | exact HB.out))) : w.heap.size ≤ gb119)); have n4_ := aS ((by rw [hg]; exact (below_size (by repeat (first | (with_reducible first | exact HB.out | apply bA | apply bN | apply bD | refine bS ?_ GE118.out) | exact HB.out))) : w.heap.size ≤ gb119)); have n5_ := aS ((by rw [hg]; exact Nat.ne_of_lt (blk_lt (g := gb118) (o := .cells #[.int .i64 a0_0, .string a0_1, .slice A0_2 l0_2.length c0_2] 25 (0, 0)) (by (with_reducible repeat (first | refine kN ?_ _ | refine kD ?_ | refine kA ?_ _)); exact BK118.out)) : gb118 ≠ gb119)); have n6_ := aS ((by rw [hg]; exact Nat.ne_of_gt (blk_lt (g := gb118) (o := .cells #[.int .i64 a0_0, .string a0_1, .slice A0_2 l0_2.length c0_2] 25 (0, 0)) (by (with_reducible repeat (first | refine kN ?_ _ | refine kD ?_ | refine kA ?_ _)); exact BK118.out)) : gb119 ≠ gb118)); clear BK118; clear HB; have BK118 := n0_; have HB := n1_; have BK119 := n2_; have GW119 := n3_; have GE119 := n4_; have NB118_119 := n5_; have NB119_118 := n6_; clear n0_ n1_ n2_ n3_ n4_ n5_ n6_; clear hb hbox hg; have hnb25 := NB118_119.out; have hnc25 := NB119_118.out; have hcz26_0 : w24.cell? ⟨gb118, 0, none⟩ = some (.int .i64 a0_0) := (blk_cell BK118.out 0).trans rfl; have hcz26_1 : w24.cell? ⟨gb118, 1, none⟩ = some (.string a0_1) := (blk_cell BK118.out 1).trans rfl; have hcz26_2 : w24.cell? ⟨gb118, 2, none⟩ = some (.slice A0_2 l0_2.length c0_2) := (blk_cell BK118.out 2).trans rfl; have hfz26_0 := blk_frozen BK118.out 0; have hfz26_1 := blk_frozen BK118.out 1; have hfz26_2 := blk_frozen BK118.out 2; have hcz27_0 : w24.cell? ⟨gb119, 0, none⟩ = some (.int .i64 a1_0) := (blk_cell BK119.out 0).trans rfl; have hcz27_1 : w24.cell? ⟨gb119, 1, none⟩ = some (.string a1_1) := (blk_cell BK119.out 1).trans rfl; have hcz27_2 : w24.cell? ⟨gb119, 2, none⟩ = some (.slice A1_2 l1_2.length c1_2) := (blk_cell BK119.out 2).trans rfl; have hfz27_0 := blk_frozen BK119.out 0; have hfz27_1 := blk_frozen BK119.out 1; have hfz27_2 := blk_frozen BK119.out 2))
   go_ret
   exact ⟨by first | rfl | (simp [errW_none, errW_some] <;> rfl) | (simp [*, errW_none, errW_some] <;> rfl), by repeat (first | (with_reducible first | exact HB.out | apply bA | apply bN | apply bD | refine bS ?_ GE118.out | refine bS ?_ GE119.out) | exact HB.out)⟩
 ·rw [if_neg c3] at H
  have c3b0 : (a0_1.toList == a1_1.toList) = false := beq_eq_false_iff_ne.mpr c3
  have c3b1 : (a0_1.toList != a1_1.toList) = true := bne_iff_ne.mpr c3
  obtain rfl := Option.some.inj H
  go_enter Try.func87, Try.ntmps87
  go_wp2_with (first | ((with_reducible refine gate_dst (N := 2) rfl ?_); (try (refine gate_guard (by rfl) ?_; dsimp only)); refine box_event ?hg (N := 2) ?hd (cs := #[.int .i64 a0_0, .string a0_1, .slice A0_2 l0_2.length c0_2]) (t := 25) ?hr ?_; (case hd => rfl); (case hg => rfl); (case hr => first | (go_simp; done) | (go_simp; rfl)); intro gb118 hg w28 hbox hb; have n0_ := aS (below_step (by repeat (first | (with_reducible first | exact HB.out | apply bA | apply bN | apply bD) | exact HB.out)) hb); have n1_ := aS (hbox); have n2_ := aS ((by rw [hg]; exact (below_size (by repeat (first | (with_reducible first | exact HB.out | apply bA | apply bN | apply bD) | exact HB.out))) : w.heap.size ≤ gb118)); have n3_ := aS ((by rw [hg]; exact (below_size (by repeat (first | (with_reducible first | exact HB.out | apply bA | apply bN | apply bD) | exact HB.out))) : w.heap.size ≤ gb118)); clear HB; have HB := n0_; have BK118 := n1_; have GW118 := n2_; have GE118 := n3_; clear n0_ n1_ n2_ n3_; clear hb hbox hg) | ((with_reducible refine gate_dst (N := 3) rfl ?_); (try (refine gate_guard (by rfl) ?_; dsimp only)); refine box_event ?hg (N := 3) ?hd (cs := #[.int .i64 a1_0, .string a1_1, .slice A1_2 l1_2.length c1_2]) (t := 25) ?hr ?_; (case hd => rfl); (case hg => rfl); (case hr => first | (go_simp; done) | (go_simp; rfl)); intro gb119 hg w29 hbox hb; have n0_ := aS (blk_below (g := gb118) (o := .cells #[.int .i64 a0_0, .string a0_1, .slice A0_2 l0_2.length c0_2] 25 (0, 0)) (by (with_reducible repeat (first | refine kN ?_ _ | refine kD ?_ | refine kA ?_ _)); exact BK118.out) hb); have n1_ := aS (below_step (by repeat (first | (with_reducible first | exact HB.out | apply bA | apply bN | apply bD | refine bS ?_ GE118.out) | exact HB.out)) hb); have n2_ := aS (hbox); have n3_ := aS ((by rw [hg]; exact (below_size (by repeat (first | (with_reducible first | exact HB.out | apply bA | apply bN | apply bD | refine bS ?_ GE118.out) | exact HB.out))) : w.heap.size ≤ gb119)); have n4_ := aS ((by rw [hg]; exact (below_size (by repeat (first | (with_reducible first | exact HB.out | apply bA | apply bN | apply bD | refine bS ?_ GE118.out) | exact HB.out))) : w.heap.size ≤ gb119)); have n5_ := aS ((by rw [hg]; exact Nat.ne_of_lt (blk_lt (g := gb118) (o := .cells #[.int .i64 a0_0, .string a0_1, .slice A0_2 l0_2.length c0_2] 25 (0, 0)) (by (with_reducible repeat (first | refine kN ?_ _ | refine kD ?_ | refine kA ?_ _)); exact BK118.out)) : gb118 ≠ gb119)); have n6_ := aS ((by rw [hg]; exact Nat.ne_of_gt (blk_lt (g := gb118) (o := .cells #[.int .i64 a0_0, .string a0_1, .slice A0_2 l0_2.length c0_2] 25 (0, 0)) (by (with_reducible repeat (first | refine kN ?_ _ | refine kD ?_ | refine kA ?_ _)); exact BK118.out)) : gb119 ≠ gb118)); clear BK118; clear HB; have BK118 := n0_; have HB := n1_; have BK119 := n2_; have GW119 := n3_; have GE119 := n4_; have NB118_119 := n5_; have NB119_118 := n6_; clear n0_ n1_ n2_ n3_ n4_ n5_ n6_; clear hb hbox hg; have hnb30 := NB118_119.out; have hnc30 := NB119_118.out; have hcz31_0 : w29.cell? ⟨gb118, 0, none⟩ = some (.int .i64 a0_0) := (blk_cell BK118.out 0).trans rfl; have hcz31_1 : w29.cell? ⟨gb118, 1, none⟩ = some (.string a0_1) := (blk_cell BK118.out 1).trans rfl; have hcz31_2 : w29.cell? ⟨gb118, 2, none⟩ = some (.slice A0_2 l0_2.length c0_2) := (blk_cell BK118.out 2).trans rfl; have hfz31_0 := blk_frozen BK118.out 0; have hfz31_1 := blk_frozen BK118.out 1; have hfz31_2 := blk_frozen BK118.out 2; have hcz32_0 : w29.cell? ⟨gb119, 0, none⟩ = some (.int .i64 a1_0) := (blk_cell BK119.out 0).trans rfl; have hcz32_1 : w29.cell? ⟨gb119, 1, none⟩ = some (.string a1_1) := (blk_cell BK119.out 1).trans rfl; have hcz32_2 : w29.cell? ⟨gb119, 2, none⟩ = some (.slice A1_2 l1_2.length c1_2) := (blk_cell BK119.out 2).trans rfl; have hfz32_0 := blk_frozen BK119.out 0; have hfz32_1 := blk_frozen BK119.out 1; have hfz32_2 := blk_frozen BK119.out 2))
  go_ret
  exact ⟨by first | rfl | (simp [errW_none, errW_some] <;> rfl) | (simp [*, errW_none, errW_some] <;> rfl), by repeat (first | (with_reducible first | exact HB.out | apply bA | apply bN | apply bD | refine bS ?_ GE118.out | refine bS ?_ GE119.out) | exact HB.out)⟩

/-! ### api_HItem_88: function 88, given -/
set_option maxHeartbeats 2000000 in
theorem api_HItem_88.del (ok : Nat → Prop) (base g c : Nat) (l0 : List S25) (i : Nat) (w : World) (hN : Kd.N k25 25 w base ok (.slice (some ⟨g, 0, none⟩) l0.length c) l0) (hbs : base ≤ w.heap.size) (hi : i < l0.length) :
 Calls Try.prog 88 #[.slice (some ⟨g, 0, none⟩) l0.length c, .int .i64 (i : Int), .int .i64 ((i + 1 : Nat) : Int)] w fun e w' => e = .returned (.slice (some ⟨g, 0, none⟩) (l0.length - 1) c) ∧ Kd.N k25 25 w' base ok (.slice (some ⟨g, 0, none⟩) (l0.length - 1) c) (l0.eraseIdx i) ∧ w.grownBy w' (some g) := by
 have hle := (Kd.N_reads' hN).2.1
 obtain ⟨cur0, hh0, hs0, hcm0⟩ := Cl.N_row hN
 have hcm : c ≤ 9223372036854775807 := hcm0
 clear hcm0 cur0 hh0 hs0
 have HN := aS hN
 clear hN
 obtain ⟨j, hj⟩ : ∃ j, i + 1 = j := ⟨_, rfl⟩
 rw [hj]
 have HJ := aS hj
 have hne : ((i : Int) == (j : Int)) = false := by simp; omega
 have hne2 : ¬ i = j := by omega
 have hij : i ≤ j := by omega
 have hic : i ≤ c := by omega
 have hi1c : j ≤ c := by omega
 have hil : i ≤ l0.length := by omega
 have hi1l : j ≤ l0.length := by omega
 have hA := aS (show (if c = j then some (⟨g, 0, none⟩ : Addr) else some ⟨g, j * 3, none⟩) = if c = i + 1 then some ⟨g, 0, none⟩ else (some (⟨g, 0, none⟩ : Addr)).map (·.add ((i + 1) * (k25).sz)) from by rw [← hj]; simp only [Option.map_some, add_plain]; rfl)
 have hM := aS (show l0.length - j = l0.length - (i + 1) from by omega)
 clear hj
 have HBS := aS hbs
 clear hbs
 go_enter Try.func88, Try.ntmps88
 go_wp2_with fail
 go_region_law go_loud (refine Kd.N_delete_step k25 (w0 := w.drew) base (by rfl) (.tmp 22) (.tmp 25) 22 25 rfl Try.underlying22 (by kernel_rfl) (g := g) (n := l0.length) (c := c) (k := i) (m := l0.length - j) (c2 := c - j) (A := if c = j then some ⟨g, 0, none⟩ else some ⟨g, j * 3, none⟩) (by simp [Act.eval, Act.put]) (by simp [Act.eval, Act.put]) hA.out hM.out (Kd.N_drew HN.out) hi (Below.refl _ _) HBS.out ?_; intro w1 HN1 hB1 hG1; have HH := aS (And.intro HN1 (And.intro hB1 hG1)); clear HN1 hB1 hG1)
 obtain ⟨HN1, hB1, hG1⟩ := HH.out
 clear HH
 obtain ⟨m, hm⟩ : ∃ m, l0.length - 1 = m := ⟨_, rfl⟩
 rw [hm] at HN1 ⊢
 obtain ⟨cur, hh, hs, hcap⟩ := Cl.N_row HN1
 have hmc : m + 1 ≤ c := by omega
 have hz1 : (Builtin.zeroCells (Value.cells (.agg #[(.int .i64 0), (.string ⟨#[]⟩), (.slice none 0 0)])) (l0.length - m)).toList.length = 3 := by
  rw [Array.length_toList, size_zeroCells, show l0.length - m = 1 from by omega]; rfl
 have hcl : ∀ ty, (Builtin.clear_ #[22] ty #[.slice (some ⟨g, m * 3, none⟩) (l0.length - m) (c - m)]).run Try.prog w1 = .ok (.tuple #[]) (w1.setCells g (m * 3) (Builtin.zeroCells (Value.cells (.agg #[(.int .i64 0), (.string ⟨#[]⟩), (.slice none 0 0)])) (l0.length - m)).toList) := fun ty =>
  Cl.run_clear Try.prog w1 22 25 ty (.agg #[(.int .i64 0), (.string ⟨#[]⟩), (.slice none 0 0)]) Try.underlying22 Try.zeroValue25 g (m * 3) (l0.length - m) (c - m) 25 (by omega) cur hh (by rw [hz1, hs]; have : (m + 1) * (k25).sz ≤ c * (k25).sz := Nat.mul_le_mul_right _ hmc; have e : (k25).sz = 3 := rfl; rw [e] at this ⊢; omega) (Cl.zero_one (by decide) _)
 have htail := aS (And.intro (Cl.N_tail HN1 (m * 3) (Builtin.zeroCells (Value.cells (.agg #[(.int .i64 0), (.string ⟨#[]⟩), (.slice none 0 0)])) (l0.length - m)).toList (Nat.le_refl _) (by rw [hz1]; have : (m + 1) * (k25).sz ≤ c * (k25).sz := Nat.mul_le_mul_right _ hmc; have e : (k25).sz = 3 := rfl; rw [e] at this ⊢; omega)) (Cl.grown_step hG1 (Cl.grown_setCells w1 g (m * 3) (Builtin.zeroCells (Value.cells (.agg #[(.int .i64 0), (.string ⟨#[]⟩), (.slice none 0 0)])) (l0.length - m)).toList)))
 clear HN1 hG1 hh hs hcap hz1 cur
 obtain ⟨zs, hzs⟩ : ∃ zs, (Builtin.zeroCells (Value.cells (.agg #[(.int .i64 0), (.string ⟨#[]⟩), (.slice none 0 0)])) (l0.length - m)).toList = zs := ⟨_, rfl⟩
 rw [hzs] at hcl htail
 clear hzs
 have hmc1 : m ≤ c := by omega
 have hml : m ≤ l0.length := by omega
 have hcm1 : ¬ c = m := by omega
 have HM := aS hm
 clear hm hmc
 go_wp2
 all_goals
  go_ret
  obtain rfl := HM.out
  first
  | exact ⟨rfl, htail.out.1, ⟨htail.out.2.1, htail.out.2.2, htail.out.2.3, htail.out.2.4, htail.out.2.5⟩⟩
  | (have hcj_ : c = j := (by assumption); subst hcj_; exact ⟨rfl, htail.out.1, ⟨htail.out.2.1, htail.out.2.2, htail.out.2.3, htail.out.2.4, htail.out.2.5⟩⟩)


/-! ### active_Pushed: function 50, given -/
def active_Pushed.sames (k : Nat) : Nat → List S25 → Int → ByteArray → List S99 → Int → List Int → Option (List Int)
 | 0, _, _, _, _, _, _ => none
 | q + 1, l, x0, x1, x2, i, s => if i < (l.length : Int) then (if 0 ≤ i then (active_alike.f k (rd_T25 l i).f0 (rd_T25 l i).f1 (rd_T25 l i).f2 x0 x1 x2).bind fun b => active_Pushed.sames k q l x0 x1 x2 (i + 1) (if b = true then s ++ [i] else s) else none) else some s
def active_Pushed.fin (l : List S25) (x : S25) (s : List Int) : Option (List S25) :=
 if (l.length + 1) * 48 ≤ 140737488355328 then (if x.f0 ≠ -1 ∧ 3 ≤ s.length then (if 0 ≤ rd s 0 ∧ rd s 0 < (l.length : Int) then some (l.eraseIdx (rd s 0).toNat ++ [x]) else none) else some (l ++ [x])) else none
def active_Pushed.f (k : Nat) (l0 : List S25) (a1_0 : Int) (a1_1 : ByteArray) (l1_2 : List S99) : Option (List S25) :=
 (active_Last.f k l0).bind fun i => if 0 ≤ i then (active_Pushed.sames k k l0 a1_0 a1_1 l1_2 i []).bind fun s => active_Pushed.fin l0 ⟨a1_0, a1_1, l1_2⟩ s else none
theorem active_Pushed.sames_mono (k : Nat) : ∀ q l x0 x1 x2 i s, LeO (active_Pushed.sames k q l x0 x1 x2 i s) (active_Pushed.sames (k + 1) (q + 1) l x0 x1 x2 i s)
 | 0, _, _, _, _, _, _ => LeO.none _
 | q + 1, l, x0, x1, x2, i, s => by
  rw [active_Pushed.sames, active_Pushed.sames]
  exact LeO.ite (LeO.ite (LeO.bind (active_alike.mono _ _ _ _ _ _ _) (fun b => active_Pushed.sames_mono k q _ _ _ _ _ _)) (LeO.none _)) (LeO.refl _)
theorem active_Pushed.mono : ∀ a0 a1 a2 a3 k, LeO (active_Pushed.f k a0 a1 a2 a3) (active_Pushed.f (k + 1) a0 a1 a2 a3) := by
 intro a0 a1 a2 a3 k
 unfold active_Pushed.f
 exact LeO.bind (active_Last.mono _ _) (fun i => LeO.ite (LeO.bind (active_Pushed.sames_mono k k _ _ _ _ _ _) (fun s => LeO.refl _)) (LeO.none _))
set_option maxHeartbeats 8000000 in
set_option maxRecDepth 100000 in
theorem active_Pushed.ok (k : Nat) (ok : Nat → Prop) (base g c : Nat) (l0 : List S25) (a1_0 : Int) (a1_1 : ByteArray) (A1_2 : Option Addr) (c1_2 : Nat) (l1_2 : List S99) (r : List S25) (w0 w : World)
 (hN : Kd.N k25 25 w base ok (.slice (some ⟨g, 0, none⟩) l0.length c) l0) (hF : Kd.F k99 w (fun k => ok k ∧ k ≠ g) A1_2 l1_2.length l1_2) (hc1 : l1_2.length ≤ c1_2) (hfresh : ∀ k, w.heap.size ≤ k → ok k) (hB : Below base w0 w) (hbs : base ≤ w.heap.size) (h : active_Pushed.f k l0 a1_0 a1_1 l1_2 = some r) :
 Calls Try.prog 50 #[.slice (some ⟨g, 0, none⟩) l0.length c, .agg #[.int .i64 a1_0, .string a1_1, .slice A1_2 l1_2.length c1_2]] w fun e w' => ∃ v, e = .returned v ∧ Kd.N k25 25 w' base ok v r ∧ Below base w0 w' := by
 unfold active_Pushed.f at h
 obtain ⟨i0, hi0, h1⟩ := Option.bind_eq_some_iff.1 h
 split at h1
 case isFalse => cases h1
 rename_i hi00
 obtain ⟨sf, hsf, h2⟩ := Option.bind_eq_some_iff.1 h1
 clear h h1
 have hsize : (l0.length + 1) * 48 ≤ 140737488355328 := by
  unfold active_Pushed.fin at h2
  split at h2
  ·assumption
  ·cases h2
 have HI := aS hi0
 have HS := aS hsf
 have H2 := aS h2
 clear hi0 hsf h2
 have hNb := Kd.N_bound hN
 have hFb := Kd.F_bound hF
 have hrd := Kd.N_reads' hN
 have HLC := aS hrd.2.1
 have hgl : g < w.heap.size := Kd.N_lt hN g rfl
 have HN := aS hNb
 have HF := aS hFb
 have HC := aS hrd.2.2
 have HB := aS hB
 have HFR := aS hfresh
 have HC1 := aS hc1
 have HBS := aS hbs
 clear hN hF hNb hFb hrd hB hfresh hc1 hbs
 go_enter Try.func50, Try.ntmps50
 go_wp2_with (go_at_call 86; refine (active_Last.calls k _ _ l0 i0 _ (Kd.C_alloc HC.out _) HLC.out HI.out).mono ?_; rintro e w1 ⟨rfl, hb1⟩)
 have HB1 := aS (((Below.refl _ w).alloc (Nat.le_refl _) (.cells #[.int .i64 a1_0, .string a1_1, .slice A1_2 l1_2.length c1_2] 25)).trans (hb1.mono (by simp)))
 have HX1 := aS (show w1.heap[w.heap.size]? = some (.cells #[.int .i64 a1_0, .string a1_1, .slice A1_2 l1_2.length c1_2] 25 (0, 0)) from (hb1.block w.heap.size (by simp)).trans (heap_alloc_new w _))
 clear hb1
 go_loopw [5, 6] (fun v5 v6 wr => ∃ (q : Nat) (s : List Int) (i : Int), v6 = .int .i64 i ∧ (s.length : Int) ≤ i ∧ i ≤ (i0 + l0.length) ∧ Aside0 (active_Pushed.sames k q l0 a1_0 a1_1 l1_2 i s = some sf) ∧ Aside0 (Kd.R (Kd.int .i64) 3 wr (w.heap.size + 1) (fun _ => True) v5 s) ∧ Aside0 (wr.heap[w.heap.size]? = some (.cells #[.int .i64 a1_0, .string a1_1, .slice A1_2 l1_2.length c1_2] 25 (0, 0))) ∧ Aside0 (Below w.heap.size w wr)) (fun _ v6 _ => ((l0.length : Int) - intOf v6).toNat)
 case atStart => exact ⟨k, [], i0, rfl, by simpa using hi00, by omega, HS, ⟨Kd.R_nil _ _ _ _ _⟩, HX1, HB1⟩
 case round =>
  obtain ⟨q, s, i, rfl, hsl, hil, hs, hR, hX, hBw⟩ := hrel
  obtain ⟨q, rfl⟩ : ∃ z, q = z + 1 := ⟨q - 1, by
   cases q with
   | zero => have := hs.out; simp [active_Pushed.sames] at this
   | succ n => rfl⟩
  have hs' := hs.out
  rw [active_Pushed.sames] at hs'
  have hmax := HC.out.2.1
  by_cases hlt : i < (l0.length : Int)
  ·rw [if_pos hlt] at hs'
   by_cases h0 : 0 ≤ i
   ·rw [if_pos h0] at hs'
    obtain ⟨b, hb, hs2⟩ := Option.bind_eq_some_iff.1 hs'
    have HBB := aS hb
    have HS2 := aS hs2
    clear hs' hb hs2 hs
    obtain ⟨cs, hcl, hFK, hcc, _⟩ := Kd.N_elem (Kd.N_below HN.out hBw.out) z25 i h0 hlt
    obtain ⟨A2, c2, rfl, hl2, hg2⟩ := k25_openF hFK
    have hx0 : wr.cell? ⟨g, i.toNat * 3, none⟩ = some (.int .i64 (rd_T25 l0 i).f0) := hcc 0 _ rfl
    have hx1 : wr.cell? ⟨g, i.toNat * 3 + 1, none⟩ = some (.string (rd_T25 l0 i).f1) := hcc 1 _ rfl
    have hx2 : wr.cell? ⟨g, i.toNat * 3 + 2, none⟩ = some (.slice A2 (rd_T25 l0 i).f2.length c2) := hcc 2 _ rfl
    have hb0 : wr.cell? ⟨w.heap.size, 0, none⟩ = some (.int .i64 a1_0) := (blk_cell hX.out 0).trans rfl
    have hb1 : wr.cell? ⟨w.heap.size, 1, none⟩ = some (.string a1_1) := (blk_cell hX.out 1).trans rfl
    have hb2 : wr.cell? ⟨w.heap.size, 2, none⟩ = some (.slice A1_2 l1_2.length c1_2) := (blk_cell hX.out 2).trans rfl
    have HCE := aS (Kd.F_now hg2)
    have HL2 := aS (show (rd_T25 l0 i).f2.length ≤ c2 from hl2)
    have HCX := aS (Kd.F_now (Kd.F_below HF.out hBw.out))
    clear hcl hFK hcc hl2 hg2
    obtain ⟨y, hy⟩ : ∃ y, rd_T25 l0 i = y := ⟨_, rfl⟩
    rw [hy] at hx0 hx1 hx2 HBB
    have HCE2 : Aside0 (Kd.C k99 wr A2 y.f2.length y.f2) := by rw [← hy]; exact HCE
    have HL3 : Aside0 (y.f2.length ≤ c2) := by rw [← hy]; exact HL2
    clear hy HCE HL2
    go_wp2
    go_still_tail 5, (by kernel_rfl)
    change wpList _ _ _ _ _ wr.drew
    have HCX2 := HCX
    cases b with
    | true =>
     have hs3 := HS2.out
     rw [if_pos rfl] at hs3
     have HS3 := aS hs3
     clear hs3 HS2
     go_wp2_with (first | (go_at_call 87; refine (active_alike.calls k y.f0 y.f1 A2 c2 y.f2 a1_0 a1_1 A1_2 c1_2 l1_2 true _ (Kd.C_drew HCE2.out) HL3.out (Kd.C_drew HCX.out) HC1.out HBB.out).mono ?_; rintro e w2 ⟨rfl, hb2⟩; have HB2 := aS (show Below wr.heap.size wr w2 from (below_drew (Below.refl _ wr)).trans hb2); clear hb2) | (at_builtin; go_loud (refine Kd.R_append (Kd.int .i64) (w0 := w2) (w.heap.size + 1) rfl (.tmp 21) (.tmp 23) 39 3 (.int .i64 0) 8 rfl Try.underlying39 info3 rfl (by decide) (by omega) u5 s i [.int .i64 i] (fun _ => True) (fun _ => False) rfl rfl rfl (fun _ hk => hk.elim) (fun _ _ => trivial) (Kd.R_below hR.out HB2.out) (Below.refl _ _) (by have h1 := hBw.out.size; have h2 := HB2.out.size; have h3 := blk_lt hX.out; omega) (by omega) ?_; intro v1 w3 hR3 hb3 hg3 _)))
     have hBw2 := hBw.out.size
     have hX3 := blk_lt hX.out
     have HB23 := HB2.out.size
     go_roundw
     case rel => exact ⟨q, s ++ [i], i + 1, by first | rfl | go_num, by simp; omega, by omega, HS3, ⟨hR3⟩, ⟨(hb3.block w.heap.size (by omega)).trans ((HB2.out.block w.heap.size (by omega)).trans hX.out)⟩, ⟨hBw.out.trans ((HB2.out.mono (by omega)).trans (hb3.mono (by omega)))⟩⟩
     case measure => simp [intOf]; omega
    | false =>
     have hs3 := HS2.out
     rw [if_neg (by decide)] at hs3
     have HS3 := aS hs3
     clear hs3 HS2
     go_wp2_with (go_at_call 87; refine (active_alike.calls k y.f0 y.f1 A2 c2 y.f2 a1_0 a1_1 A1_2 c1_2 l1_2 false _ (Kd.C_drew HCE2.out) HL3.out (Kd.C_drew HCX.out) HC1.out HBB.out).mono ?_; rintro e w2 ⟨rfl, hb2⟩; have HB2 := aS (show Below wr.heap.size wr w2 from (below_drew (Below.refl _ wr)).trans hb2); clear hb2)
     have hBw2 := hBw.out.size
     have hX3 := blk_lt hX.out
     have HB23 := HB2.out.size
     go_roundw
     case rel => exact ⟨q, s, i + 1, by first | rfl | go_num, by omega, by omega, HS3, ⟨Kd.R_below hR.out HB2.out⟩, ⟨(HB2.out.block w.heap.size (by omega)).trans hX.out⟩, ⟨hBw.out.trans (HB2.out.mono (by omega))⟩⟩
     case measure => simp [intOf]; omega
   ·rw [if_neg h0] at hs'
    cases hs'
  ·rw [if_neg hlt] at hs'
   obtain rfl := Option.some.inj hs'
   clear hs'
   have h2 := H2.out
   unfold active_Pushed.fin at h2
   rw [if_pos hsize] at h2
   have HCX := aS (Kd.F_now (Kd.F_below HF.out hBw.out))
   have HRs := aS (Kd.R_reads hR.out)
   have hb0 : wr.cell? ⟨w.heap.size, 0, none⟩ = some (.int .i64 a1_0) := (blk_cell hX.out 0).trans rfl
   have hb1 : wr.cell? ⟨w.heap.size, 1, none⟩ = some (.string a1_1) := (blk_cell hX.out 1).trans rfl
   have hb2 : wr.cell? ⟨w.heap.size, 2, none⟩ = some (.slice A1_2 l1_2.length c1_2) := (blk_cell hX.out 2).trans rfl
   by_cases hd : a1_0 ≠ -1 ∧ 3 ≤ s.length
   ·rw [if_pos hd] at h2
    split at h2
    case isFalse => cases h2
    rename_i hrr
    obtain rfl := Option.some.inj h2
    obtain ⟨m, hm⟩ : ∃ m : Nat, rd s 0 = (m : Int) := ⟨(rd s 0).toNat, by omega⟩
    have hml : m < l0.length := by omega
    obtain ⟨As, csn, hv5, hsc, hCs⟩ := HRs.out
    subst hv5
    obtain ⟨ad, cc, rfl, hcl, hK, hcc⟩ := Cl.getC hCs 0 0 (by omega)
    have hcell : wr.cell? ad = some (.int .i64 (m : Int)) := by
     have hK' : cc = [.int .i64 (rd s 0)] := hK
     rw [hm] at hK'
     have := hcc 0 (.int .i64 (m : Int)) (by rw [hK']; rfl)
     rw [show 0 * (Kd.int .i64).sz + 0 = 0 from rfl, Addr.add_zero'] at this
     exact this
    have HMK := aS (show active_Marker.f a1_0 a1_1 l1_2 = some false by unfold active_Marker.f; simp [hd.1])
    have hdel := fun W (hW : Below wr.heap.size wr W) => api_HItem_88.del _ base g c l0 m W (Kd.N_below (Kd.N_below HN.out hBw.out) hW) (Nat.le_trans HBS.out (Nat.le_trans hBw.out.size hW.size)) hml
    rw [show ((m + 1 : Nat) : Int) = (m : Int) + 1 from by omega] at hdel
    have HD := aS hdel
    have h3 : (3 : Int) ≤ (s.length : Int) := by have := hd.2; omega
    have hs0 : (0 : Int) < (s.length : Int) := by omega
    have hs0n : 0 < s.length := by omega
    have HM := aS hm
    have hmb : (m : Int) ≤ 4611686018427387904 := by omega
    clear hdel hcc hK hcl hCs hm hrr hd hR
    go_wp2_with (go_at_call 56; refine (active_Marker.calls a1_0 a1_1 A1_2 c1_2 l1_2 false _ HCX.out HC1.out HMK.out).mono ?_; rintro e w2 ⟨rfl, hb2_⟩; have HB2 := aS hb2_; have HX2 := aS ((hb2_.block w.heap.size (blk_lt hX.out)).trans hX.out); clear hb2_; have hc0_ := (blk_cell HX2.out 0).trans rfl; have hc1_ := (blk_cell HX2.out 1).trans rfl; have hc2_ := (blk_cell HX2.out 2).trans rfl)
    have hcell2 : w2.cell? ad = some (.int .i64 (m : Int)) := pw_cell_below HB2.out hcell
    clear hcell hb0 hb1 hb2
    go_still_tail 8, (by kernel_rfl)
    change wpList _ _ _ _ _ w2.drew
    go_wp2_with (first | (go_at_call 88; refine (HD.out w2.drew (below_drew HB2.out)).mono ?_; rintro e w3 ⟨rfl, hN3, hg3⟩; have HN3 := aS hN3; have HG3 := aS hg3; clear hN3 hg3; clear hc0_ hc1_ hc2_ hcell2; have hX3 := aS (blk_grown (show w2.drew.heap[w.heap.size]? = _ from HX2.out) HG3.out (by intro e; have := Option.some.inj e; omega)); have hd0_ := (blk_cell hX3.out 0).trans rfl; have hd1_ := (blk_cell hX3.out 1).trans rfl; have hd2_ := (blk_cell hX3.out 2).trans rfl) | (at_builtin; go_loud (refine Kd.N_append k25 (w0 := w0) base rfl (.tmp 42) (.tmp 44) 22 25 (.agg #[(.int .i64 0), (.string ⟨#[]⟩), (.slice none 0 0)]) 48 rfl Try.underlying22 info25 rfl (by decide) (by omega) (.slice (some ⟨g, 0, none⟩) (l0.length - 1) c) (l0.eraseIdx m) (⟨a1_0, a1_1, l1_2⟩ : S25) [.int .i64 a1_0, .string a1_1, .slice A1_2 l1_2.length c1_2] ok (fun k => (ok k ∧ k ≠ g) ∧ k < w.heap.size) rfl rfl (k25_mkF _ _ (⟨a1_0, a1_1, l1_2⟩ : S25) HC1.out (Kd.F_grown (Kd.F_drew (Kd.F_below (Kd.F_below HF.out hBw.out) HB2.out)) HG3.out (fun k hk e => hk.1.2 (Option.some.inj e)))) (fun k hk => ⟨hk.1.1, fun e => hk.1.2 (Option.some.inj e)⟩) (fun k hk => HFR.out k (Nat.le_trans (Nat.le_trans (Nat.le_trans hBw.out.size HB2.out.size) HG3.out.size) hk)) (Kd.N_mono HN3.out (fun k hk => hk.1)) (pw_below_grown (below_drew (below_then HB.out HBS.out (hBw.out.trans (HB2.out.mono hBw.out.size)))) _ (Nat.le_trans HBS.out (Nat.le_trans hBw.out.size HB2.out.size)) HG3.out (fun k hk => by cases hk; exact Kd.N_base HN.out g rfl)) (Nat.le_trans HBS.out (Nat.le_trans (Nat.le_trans hBw.out.size HB2.out.size) HG3.out.size)) (by first | omega | (simp only [List.length_eraseIdx]; split <;> omega)) ?_; intro v1 w9 hN9 hb9 _ _)))
    go_ret
    exact ⟨_, rfl, by rw [HM.out]; exact hN9, hb9⟩
   ·rw [if_neg hd] at h2
    obtain rfl := Option.some.inj h2
    obtain ⟨As, csn, hv5, hsc, hCs⟩ := HRs.out
    subst hv5
    clear hCs hsc hR
    by_cases hm1 : a1_0 = -1
    ·have HMK := aS (show active_Marker.f a1_0 a1_1 l1_2 = some true by unfold active_Marker.f; simp [hm1])
     clear hm1 hd
     go_wp2_with (first | (go_at_call 56; refine (active_Marker.calls a1_0 a1_1 A1_2 c1_2 l1_2 true _ HCX.out HC1.out HMK.out).mono ?_; rintro e w2 ⟨rfl, hb2_⟩; have HB2 := aS hb2_; have HX2 := aS ((hb2_.block w.heap.size (blk_lt hX.out)).trans hX.out); clear hb2_; have hc0_ := (blk_cell HX2.out 0).trans rfl; have hc1_ := (blk_cell HX2.out 1).trans rfl; have hc2_ := (blk_cell HX2.out 2).trans rfl) | (at_builtin; go_loud (refine Kd.N_append k25 (w0 := w0) base rfl (.tmp 42) (.tmp 44) 22 25 (.agg #[(.int .i64 0), (.string ⟨#[]⟩), (.slice none 0 0)]) 48 rfl Try.underlying22 info25 rfl (by decide) (by omega) (.slice (some ⟨g, 0, none⟩) l0.length c) l0 (⟨a1_0, a1_1, l1_2⟩ : S25) [.int .i64 a1_0, .string a1_1, .slice A1_2 l1_2.length c1_2] ok (fun k => (ok k ∧ k ≠ g) ∧ k < w.heap.size) rfl rfl (k25_mkF _ _ (⟨a1_0, a1_1, l1_2⟩ : S25) HC1.out (Kd.F_below (Kd.F_below HF.out hBw.out) HB2.out)) (fun k hk => ⟨hk.1.1, fun e => hk.1.2 (Option.some.inj e)⟩) (fun k hk => HFR.out k (Nat.le_trans (Nat.le_trans hBw.out.size HB2.out.size) hk)) (Kd.N_mono (Kd.N_below (Kd.N_below HN.out hBw.out) HB2.out) (fun k hk => hk.1)) (below_then HB.out HBS.out (hBw.out.trans (HB2.out.mono hBw.out.size))) (Nat.le_trans HBS.out (Nat.le_trans hBw.out.size HB2.out.size)) (by first | omega | (simp only [List.length_eraseIdx]; split <;> omega)) ?_; intro v1 w9 hN9 hb9 _ _)))
     go_ret
     exact ⟨_, rfl, hN9, hb9⟩
    ·have HMK := aS (show active_Marker.f a1_0 a1_1 l1_2 = some false by unfold active_Marker.f; simp [hm1])
     have h3 : ¬ (3 : Int) ≤ (s.length : Int) := fun h => hd ⟨hm1, by omega⟩
     clear hm1 hd
     go_wp2_with (first | (go_at_call 56; refine (active_Marker.calls a1_0 a1_1 A1_2 c1_2 l1_2 false _ HCX.out HC1.out HMK.out).mono ?_; rintro e w2 ⟨rfl, hb2_⟩; have HB2 := aS hb2_; have HX2 := aS ((hb2_.block w.heap.size (blk_lt hX.out)).trans hX.out); clear hb2_; have hc0_ := (blk_cell HX2.out 0).trans rfl; have hc1_ := (blk_cell HX2.out 1).trans rfl; have hc2_ := (blk_cell HX2.out 2).trans rfl) | (at_builtin; go_loud (refine Kd.N_append k25 (w0 := w0) base rfl (.tmp 42) (.tmp 44) 22 25 (.agg #[(.int .i64 0), (.string ⟨#[]⟩), (.slice none 0 0)]) 48 rfl Try.underlying22 info25 rfl (by decide) (by omega) (.slice (some ⟨g, 0, none⟩) l0.length c) l0 (⟨a1_0, a1_1, l1_2⟩ : S25) [.int .i64 a1_0, .string a1_1, .slice A1_2 l1_2.length c1_2] ok (fun k => (ok k ∧ k ≠ g) ∧ k < w.heap.size) rfl rfl (k25_mkF _ _ (⟨a1_0, a1_1, l1_2⟩ : S25) HC1.out (Kd.F_below (Kd.F_below HF.out hBw.out) HB2.out)) (fun k hk => ⟨hk.1.1, fun e => hk.1.2 (Option.some.inj e)⟩) (fun k hk => HFR.out k (Nat.le_trans (Nat.le_trans hBw.out.size HB2.out.size) hk)) (Kd.N_mono (Kd.N_below (Kd.N_below HN.out hBw.out) HB2.out) (fun k hk => hk.1)) (below_then HB.out HBS.out (hBw.out.trans (HB2.out.mono hBw.out.size))) (Nat.le_trans HBS.out (Nat.le_trans hBw.out.size HB2.out.size)) (by first | omega | (simp only [List.length_eraseIdx]; split <;> omega)) ?_; intro v1 w9 hN9 hb9 _ _)))
     go_ret
     exact ⟨_, rfl, hN9, hb9⟩
theorem active_Pushed.calls : True := trivial


/-! ### active_Push: function 10, given -/
def active_Push.f (k : Nat) (l0 : List S25) (a1_0 : Int) (a1_1 : ByteArray) (l1_2 : List S99) : Option (List S25 × Int) :=
 if (l0.length + 1) * 48 ≤ 140737488355328 then (active_own.f k (l0 ++ [⟨a1_0, a1_1, l1_2⟩])).bind fun all => if all.length = l0.length + 1 then (active_Check.f all).bind fun e => if e = 0 then (active_Pushed.f k (all.take l0.length) (rd_T25 all l0.length).f0 (rd_T25 all l0.length).f1 (rd_T25 all l0.length).f2).bind fun r => some (r, 0) else some ([], e) else none else none
theorem active_Push.mono : ∀ a0 a1 a2 a3 k, LeO (active_Push.f k a0 a1 a2 a3) (active_Push.f (k + 1) a0 a1 a2 a3) := by
 intro a0 a1 a2 a3 k
 unfold active_Push.f
 exact LeO.ite (LeO.bind (active_own.mono _ _) (fun all => LeO.ite (LeO.bind (LeO.refl _) (fun e => LeO.ite (LeO.bind (active_Pushed.mono _ _ _ _ _) (fun r => LeO.refl _)) (LeO.refl _))) (LeO.none _))) (LeO.none _)
set_option maxHeartbeats 8000000 in
set_option maxRecDepth 100000 in
theorem active_Push.calls (k : Nat) (P0_ : Nat → Prop) (A0 : Option Addr) (c0 : Nat) (l0 : List S25) (a1_0 : Int) (a1_1 : ByteArray) (P1_2_ : Nat → Prop) (A1_2 : Option Addr) (c1_2 : Nat) (l1_2 : List S99) (r1 : List S25) (r2 : Int) (w : World) (hs0 : Kd.V k25 25 w w.heap.size (fun k_ => P0_ k_) (.slice A0 l0.length c0) l0) (hs1_2 : Kd.V k99 99 w w.heap.size (fun k_ => P1_2_ k_) (.slice A1_2 l1_2.length c1_2) l1_2) (h : active_Push.f k l0 a1_0 a1_1 l1_2 = some (r1, r2)) :
 Calls Try.prog 10 #[.slice A0 l0.length c0, .agg #[.int .i64 a1_0, .string a1_1, .slice A1_2 l1_2.length c1_2]] w fun e w' => ∃ v0_ : Value, e = .returned (.tuple #[v0_, .int .i64 r2]) ∧ Kd.N k25 25 w' w.heap.size (fun k_ => ((P0_ k_ ∨ P1_2_ k_) ∨ w.heap.size ≤ k_)) v0_ r1 ∧ Below w.heap.size w w' := by
 unfold active_Push.f at h
 split at h
 case isFalse => cases h
 rename_i hsize
 obtain ⟨all, hall, h1⟩ := Option.bind_eq_some_iff.1 h
 split at h1
 case isFalse => cases h1
 rename_i hlen
 obtain ⟨ec, hec, h2⟩ := Option.bind_eq_some_iff.1 h1
 clear h h1
 obtain ⟨yl, hyl⟩ : ∃ yl, l0 ++ [(⟨a1_0, a1_1, l1_2⟩ : S25)] = yl := ⟨_, rfl⟩
 rw [hyl] at hall
 have HYL := aS hyl
 clear hyl
 have HALL := aS hall
 have HEC := aS hec
 have H2 := aS h2
 have HV0 := aS hs0
 have HV1 := aS hs1_2
 have HLE := aS hlen
 have HC1 := aS (Kd.V_reads' hs1_2).2.1
 have HF1 := aS (Kd.F_bound (Kd.V_F hs1_2))
 have hcl : Aside0 (∀ W, Below w.heap.size w W → Calls Try.prog 49 #[.slice A0 l0.length c0] W fun e w' => ∃ v0_ : Value, e = .returned (v0_) ∧ Kd.N k25 25 w' W.heap.size (fun k_ => ((P0_ k_ ∧ k_ < w.heap.size) ∨ W.heap.size ≤ k_)) v0_ l0 ∧ Below W.heap.size W w') :=
  ⟨fun W hW => api_HItem_49.calls (fun k => P0_ k ∧ k < w.heap.size) A0 c0 l0 l0 W (Kd.V_below (Kd.V_bound hs0) hW) (by unfold api_HItem_49.f; rw [if_pos (by omega)])⟩
 clear hall hec h2 hs0 hs1_2 hlen
 go_enter Try.func10, Try.ntmps10
 go_wp2_with fail
 have hbx0 : (w.alloc (.cells #[.int .i64 a1_0, .string a1_1, .slice A1_2 l1_2.length c1_2] 25)).cell? ⟨w.heap.size, 0, none⟩ = some (.int .i64 a1_0) := (blk_cell (heap_alloc_new w _) 0).trans rfl
 have hbx1 : (w.alloc (.cells #[.int .i64 a1_0, .string a1_1, .slice A1_2 l1_2.length c1_2] 25)).cell? ⟨w.heap.size, 1, none⟩ = some (.string a1_1) := (blk_cell (heap_alloc_new w _) 1).trans rfl
 have hbx2 : (w.alloc (.cells #[.int .i64 a1_0, .string a1_1, .slice A1_2 l1_2.length c1_2] 25)).cell? ⟨w.heap.size, 2, none⟩ = some (.slice A1_2 l1_2.length c1_2) := (blk_cell (heap_alloc_new w _) 2).trans rfl
 have HBX := aS (heap_alloc_new w (.cells #[.int .i64 a1_0, .string a1_1, .slice A1_2 l1_2.length c1_2] 25))
 have HSZ := aS hsize
 have HSZ1 := aS (show ((w.alloc (.cells #[.int .i64 a1_0, .string a1_1, .slice A1_2 l1_2.length c1_2] 25)).drew).heap.size = w.heap.size + 1 from by simp)
 have HL0 := aS (show ((w.alloc (.cells #[.int .i64 a1_0, .string a1_1, .slice A1_2 l1_2.length c1_2] 25)).drew.alloc (.cells #[.int .i64 a1_0, .string a1_1, .slice A1_2 l1_2.length c1_2] 25)).heap[w.heap.size + 1]? = some (Obj.cells #[.int .i64 a1_0, .string a1_1, .slice A1_2 l1_2.length c1_2] 25 (0, 0)) from by
  have h0 := heap_alloc_new ((w.alloc (.cells #[.int .i64 a1_0, .string a1_1, .slice A1_2 l1_2.length c1_2] 25)).drew) (.cells #[.int .i64 a1_0, .string a1_1, .slice A1_2 l1_2.length c1_2] 25)
  rw [HSZ1.out] at h0
  exact h0)
 have HL1 := aS (show (((w.alloc (.cells #[.int .i64 a1_0, .string a1_1, .slice A1_2 l1_2.length c1_2] 25)).alloc (.cells #[.int .i64 a1_0, .string a1_1, .slice A1_2 l1_2.length c1_2] 25)).drew).heap[w.heap.size + 1]? = some (Obj.cells #[.int .i64 a1_0, .string a1_1, .slice A1_2 l1_2.length c1_2] 25 (0, 0)) from HL0.out)
 go_region_law (first
  | (refine Kd.N_append_step k25 (w0 := w) w.heap.size (by rfl) (.tmp 9) (.tmp 11) 22 25 (.agg #[(.int .i64 0), (.string ⟨#[]⟩), (.slice none 0 0)]) 48 rfl Try.underlying22 info25 rfl (by decide) (by omega) v2 l0 (⟨a1_0, a1_1, l1_2⟩ : S25) [.int .i64 a1_0, .string a1_1, .slice A1_2 l1_2.length c1_2] (fun k_ => ((P0_ k_ ∨ P1_2_ k_) ∨ w.heap.size ≤ k_)) (fun k_ => P1_2_ k_ ∧ k_ < w.heap.size) (by simp [Act.eval, Act.put]) (by simp [Act.eval, Act.put]) (k25_mkF _ _ (⟨a1_0, a1_1, l1_2⟩ : S25) HC1.out (Kd.F_below HF1.out HBW.out)) (fun k hk => ⟨.inl (.inr hk.1), fun e => by have := Kd.N_base HN2.out k e.symm; have := hk.2; omega⟩) (fun k hk => .inr (Nat.le_trans HBW.out.size hk)) HN2.out HBW.out HBW.out.size (by have := HSZ.out; omega) ?_; intro v3 w3 hN3 hb3 _ _; rw [HYL.out] at hN3; obtain ⟨A3, c3, rfl⟩ := Kd.N_slice hN3; have HN3 := aS hN3; have HB3 := aS hb3; clear hN3 hb3)
  | (refine Kd.N_append_rows_step k25 (w0 := w) w.heap.size (by rfl) (.tmp 9) (.tmp 11) 22 25 (.agg #[(.int .i64 0), (.string ⟨#[]⟩), (.slice none 0 0)]) 48 rfl Try.underlying22 info25 rfl (by decide) (by omega) v2 l0 [(⟨a1_0, a1_1, l1_2⟩ : S25)] (some ⟨w.heap.size + 1, 0, none⟩) 1 1 (fun k_ => ((P0_ k_ ∨ P1_2_ k_) ∨ w.heap.size ≤ k_)) (fun k_ => P1_2_ k_ ∧ k_ < w.heap.size ∨ k_ = w.heap.size + 1) (by simp [Act.eval, Act.put]) (by simp [Act.eval, Act.put]) HN2.out (Cl.F_one (b := w.heap.size + 1) (e := 25) (by first | (with_reducible exact blk_below HL0.out HBR.out) | (with_reducible exact blk_below HL1.out HBR.out)) (k25_mkF _ _ (⟨a1_0, a1_1, l1_2⟩ : S25) HC1.out (Kd.F_below HF1.out HBW.out))) (fun k hk => ⟨Or.elim hk (fun h => .inl (.inr h.1)) (fun h => .inr (by omega)), fun e => by have := HNB.out k e.symm; simp at this; rcases hk with h | h <;> omega⟩) (fun k hk => .inr (Nat.le_trans HBW.out.size hk)) HBW.out HBW.out.size (by have := HSZ.out; omega) ?_; intro v3 w3 hN3 hb3 _ _; rw [HYL.out] at hN3; obtain ⟨A3, c3, rfl⟩ := Kd.N_slice hN3; have HN3 := aS hN3; have HB3 := aS hb3; clear hN3 hb3)
  | (go_simp; go_at_call 49; refine (hcl.out _ (by repeat (first | (with_reducible first | exact Below.refl _ _ | apply bA | apply bN | apply bD)))).mono ?_; rintro e w2 ⟨v2, rfl, hN2, hb2⟩; have HNB := aS (Kd.N_base hN2); have HN2 := aS (Kd.N_lower (base' := w.heap.size) (Kd.N_mono (ok' := (fun k_ => ((P0_ k_ ∨ P1_2_ k_) ∨ w.heap.size ≤ k_))) hN2 (fun k hk => Or.elim hk (fun h => .inl (.inl h.1)) (fun h => .inr (Nat.le_trans (by first | (simp; done) | (simp; omega)) h)))) (by first | (simp; done) | (simp; omega))); have HBW := aS (show Below w.heap.size w w2 from Below.trans (by repeat (first | (with_reducible first | exact Below.refl _ _ | apply bA | apply bN | apply bD))) (hb2.mono (by first | (simp; done) | (simp; omega)))); have hy0 := pw_cell_below hb2 (by first | exact hbx0 | exact Lib.cell?_alloc_some _ hbx0); have hy1 := pw_cell_below hb2 (by first | exact hbx1 | exact Lib.cell?_alloc_some _ hbx1); have hy2 := pw_cell_below hb2 (by first | exact hbx2 | exact Lib.cell?_alloc_some _ hbx2); have HBR := aS hb2; clear hN2 hb2)
  | (go_simp; go_at_call 48; refine (active_own.calls k (fun k_ => ((P0_ k_ ∨ P1_2_ k_) ∨ w.heap.size ≤ k_)) A3 c3 yl all _ (Kd.N_V HN3.out) HALL.out).mono ?_; rintro e w4 ⟨v4, rfl, hN4, hb4⟩; obtain ⟨A4, c4, rfl⟩ := Kd.N_slice hN4; have HN4 := aS (Kd.N_lower (base' := w.heap.size) (Kd.N_mono (ok' := (fun k_ => ((P0_ k_ ∨ P1_2_ k_) ∨ w.heap.size ≤ k_))) hN4 (fun k hk => Or.elim hk id (fun h => .inr (Nat.le_trans HB3.out.size h)))) HB3.out.size); have HB4 := aS (Below.trans HB3.out (hb4.mono HB3.out.size)); clear hN4 hb4))
 all_goals
  have hr4 := Kd.N_reads' HN4.out
  have HC4 := aS hr4.2.2
  have HL4 := aS hr4.2.1
  clear hr4
  have hlt4 : l0.length < all.length := by have := HLE.out; omega
  obtain ⟨g, cap, he4, hg4, hgl4, _⟩ := Kd.N_form HN4.out (by omega)
  injection he4 with he4 _ hc4
  subst he4
  subst hc4
  have hlc : l0.length ≤ c4 := by have := HL4.out; omega
  by_cases hz : ec = 0
  ·subst hz
   have h2 := H2.out
   rw [if_pos rfl] at h2
   obtain ⟨rp, hrp, h3⟩ := Option.bind_eq_some_iff.1 h2
   injection h3 with h3
   injection h3 with h3 h4
   subst h3
   subst h4
   have HRP := aS hrp
   clear h2 hrp H2
   go_wp2_with (go_at_call 16; refine (active_Check.calls _ c4 all 0 _ HC4.out HL4.out HEC.out).mono ?_; rintro e w5 ⟨rfl, hb5⟩; have HB5 := aS hb5; clear hb5)
   obtain ⟨cs, hcl5, hFK, hcc, _⟩ := Kd.N_elem (Kd.N_below HN4.out HB5.out) z25 (l0.length : Int) (by omega) (by omega)
   obtain ⟨A2, c2, rfl, hl2, hg2⟩ := k25_openF hFK
   have hx0 : w5.cell? ⟨g, l0.length * 3, none⟩ = some (.int .i64 (rd_T25 all l0.length).f0) := hcc 0 _ rfl
   have hx1 : w5.cell? ⟨g, l0.length * 3 + 1, none⟩ = some (.string (rd_T25 all l0.length).f1) := hcc 1 _ rfl
   have hx2 : w5.cell? ⟨g, l0.length * 3 + 2, none⟩ = some (.slice A2 (rd_T25 all l0.length).f2.length c2) := hcc 2 _ rfl
   have HG2 := aS hg2
   have HL2 := aS (show (rd_T25 all l0.length).f2.length ≤ c2 from hl2)
   clear hcl5 hFK hcc hl2 hg2
   have hP := fun W (hW : Below w5.heap.size w5 W) (hd : W.heap.size = w5.heap.size) => active_Pushed.ok k (fun k_ => ((P0_ k_ ∨ P1_2_ k_) ∨ w.heap.size ≤ k_)) w.heap.size g c4 (all.take l0.length) (rd_T25 all l0.length).f0 (rd_T25 all l0.length).f1 A2 c2 (rd_T25 all l0.length).f2 rp w W (by rw [List.length_take, Nat.min_eq_left (by omega)]; exact Kd.N_take (Kd.N_below (Kd.N_below HN4.out HB5.out) hW) (by omega)) (Kd.F_below HG2.out hW) HL2.out (fun k hk => .inr (Nat.le_trans (Nat.le_trans HB4.out.size (Nat.le_trans HB5.out.size hW.size)) hk)) (HB4.out.trans ((HB5.out.mono HB4.out.size).trans (hW.mono (Nat.le_trans HB4.out.size HB5.out.size)))) (Nat.le_trans HB4.out.size (Nat.le_trans HB5.out.size hW.size)) HRP.out
   rw [show (all.take l0.length).length = l0.length by rw [List.length_take, Nat.min_eq_left (by omega)]] at hP
   have HP := aS hP
   clear hP
   obtain ⟨y, hy⟩ : ∃ y, rd_T25 all l0.length = y := ⟨_, rfl⟩
   rw [hy] at hx0 hx1 hx2 HP
   clear hy
   go_wp2_with fail
   go_still_tail 9, (by kernel_rfl)
   change wpList _ _ _ _ _ w5.drew
   go_wp2_with (go_at_call 50; refine (HP.out w5.drew (below_drew (Below.refl _ _)) rfl).mono ?_; rintro e w6 ⟨v6, rfl, hN6, hB6⟩)
   go_ret2
   exact ⟨_, rfl, hN6, hB6⟩
  ·have h2 := H2.out
   rw [if_neg hz] at h2
   injection h2 with h2
   injection h2 with h3 h4
   subst h3
   subst h4
   clear H2
   have hz1 : (ec == 0) = false := by simpa using hz
   go_wp2_with (go_at_call 16; refine (active_Check.calls _ c4 all ec _ HC4.out HL4.out HEC.out).mono ?_; rintro e w5 ⟨rfl, hb5⟩; have HB5 := aS hb5; clear hb5)
   go_ret2
   exact ⟨_, rfl, Kd.N_nil _ _ _ _ _, HB4.out.trans (HB5.out.mono HB4.out.size)⟩


/-! ### active_Cleared: function 51 -/
def active_Cleared.f (k : Nat) (l0 : List (S25)) : Option ((List (S25))) := (active_Last.f k l0).bind fun t122 => (if 0 ≤ (mx (wrap64 (t122 - 1)) 0) then (if (mx (wrap64 (t122 - 1)) 0) ≤ (l0.length : Int) then (some (l0.take ((mx (wrap64 (t122 - 1)) 0) : Int).toNat)) else (none)) else (none))
theorem active_Cleared.mono : ∀ a0 k, LeO (active_Cleared.f k a0) (active_Cleared.f (k + 1) a0) := by
 intro a0 k
 unfold active_Cleared.f
 repeat' first
  | (with_reducible exact active_Last.mono _ _)
  | (with_reducible exact LeO.refl _)
  | (with_reducible exact LeO.none _)
  | (with_reducible refine LeO.ite ?_ ?_)
  | (with_reducible refine LeO.bind ?_ (fun _ => ?_))
  | exact active_Last.mono _ _
  | exact LeO.none _
  | refine LeO.ite ?_ ?_
  | refine LeO.bind ?_ (fun _ => ?_)
set_option maxHeartbeats 8000000 in
set_option maxRecDepth 100000 in
theorem active_Cleared.calls (k : Nat) (P0_ : Nat → Prop) (A0 : Option Addr) (c0 : Nat) (l0 : List (S25)) (r : List (S25)) (w : World) (hs0 : Kd.V k25 25 w w.heap.size (fun k_ => P0_ k_) (.slice A0 l0.length c0) l0) (h : active_Cleared.f k l0 = some r) :
 Calls Try.prog 51 #[.slice A0 l0.length c0] w fun e w' => ∃ v0_ : Value, e = .returned (v0_) ∧ Kd.V k25 25 w' w.heap.size (fun k_ => (P0_ k_ ∨ w.heap.size ≤ k_)) v0_ r ∧ Below w.heap.size w w' := by
 have HO0 := aS (show Kd.V k25 25 w w.heap.size (fun k_ => (P0_ k_ ∨ w.heap.size ≤ k_)) (.slice A0 l0.length c0) l0 from Kd.V_mono hs0 (fun k_ hk => .inl hk))
 have HB := aS (Below.refl w.heap.size w)
 have H : ((active_Last.f k l0).bind fun t122 => (if 0 ≤ (mx (wrap64 (t122 - 1)) 0) then (if (mx (wrap64 (t122 - 1)) 0) ≤ (l0.length : Int) then (some (l0.take ((mx (wrap64 (t122 - 1)) 0) : Int).toNat)) else (none)) else (none))) = some r := h
 clear h
 replace H := Option.bind_eq_some_iff.mp H
 obtain ⟨t122, A20, H⟩ := H
 replace H : (if 0 ≤ (mx (wrap64 (t122 - 1)) 0) then (if (mx (wrap64 (t122 - 1)) 0) ≤ (l0.length : Int) then (some (l0.take ((mx (wrap64 (t122 - 1)) 0) : Int).toNat)) else (none)) else (none)) = some r := H
 have A2 := aS A20
 clear A20
 obtain ⟨ji3, hji3⟩ : ∃ j_ : Int, (mx (wrap64 (t122 - 1)) 0) = j_ := ⟨_, rfl⟩
 replace H : (if 0 ≤ (ji3) then (if (ji3) ≤ (l0.length : Int) then (some (l0.take ((ji3) : Int).toNat)) else (none)) else (none)) = some r := by first | (rw [hji3] at H; exact H) | (simp only [hji3] at H ⊢; exact H)
 (try rw [hji3] at A2)
 (try (have hji3l : 0 ≤ ji3 := by (rw [← hji3]; unfold mx; (repeat' split) <;> omega)))
 (try (have hji3m : 0 ≤ ji3 := by omega))
 have hji3_ : (if (wrap64 (t122 - 1)) < 0 then 0 else (wrap64 (t122 - 1))) = ji3 := hji3
 by_cases c4 : 0 ≤ (ji3)
 ·rw [if_pos c4] at H
  have c4b0 := eq_true c4
  have c4b1 : decide (0 ≤ (ji3)) = true := decide_eq_true c4
  clear c4
  by_cases c5 : (ji3) ≤ (l0.length : Int)
  ·rw [if_pos c5] at H
   have c5b0 := eq_true c5
   have c5b1 : decide ((ji3) ≤ (l0.length : Int)) = true := decide_eq_true c5
   clear c5
   obtain ⟨y123, hy123⟩ : ∃ y_ : List (S25), y_ = (l0.take ((ji3) : Int).toNat) := ⟨_, rfl⟩
   replace H : (some y123) = some r := by first | (rw [hy123]; with_reducible exact H) | (have H2_ := (Option.bind_some _ _).symm.trans H; rw [hy123]; with_reducible exact H2_) | (have H2_ := (Option.bind_some _ _).symm.trans H; with_reducible exact H2_) | with_reducible exact H | (rw [hy123]; exact H) | exact H
   have Ny123 := aS hy123
   clear hy123
   obtain rfl := Option.some.inj H
   go_enter Try.func51, Try.ntmps51
   go_wp2_with (first | ((with_reducible refine gate_callee (f := 86) rfl ?_); refine goesL_ (some 5) rfl rfl Try.func86 (by kernel_rfl) rfl #[.slice A0 l0.length c0] rfl (by (try simp only [List.map_toArray, List.map_cons, List.map_nil]); first | done | rfl | (simp only [List.length_drop, List.length_take]; rfl)) ?_; (with_reducible refine (active_Last.calls k _ _ l0 t122 _ ?side1 ?side2 A2.out).mono ?_); (case side1 => repeat (first | exact (Kd.V_reads' HO0.out).2.2 | (with_reducible refine cA ?_ _) | (with_reducible refine cN ?_ _) | (with_reducible refine cD ?_))); (case side2 => exact (Kd.V_reads' HO0.out).2.1); rintro e w6 ⟨rfl, hb⟩; refine ⟨_, rfl, ?_⟩; have n0_ := aS (Kd.V_below (by (with_reducible repeat (first | apply vA | apply vN | apply vD)); exact HO0.out) hb); have n1_ := aS (below_step (by repeat (first | (with_reducible first | exact HB.out | apply bA | apply bN | apply bD) | exact HB.out)) hb); clear HO0; clear HB; have HO0 := n0_; have HB := n1_; clear n0_ n1_; (try clear hb); (try clear hb2); (try clear hk); (try clear hi); have q7 : ((ji3) : Int) ≤ ((l0.length : Int) : Int) := od (by first | (with_reducible assumption) | assumption); obtain ⟨i07, hi07, _, hsz7, _⟩ := info_parts info25; have hroom7 : l0.length ≤ c0 := (Kd.V_reads' HO0.out).2.1; have hC7 : Kd.F k25 _ _ A0 l0.length l0 := (Kd.V_at (base := w.heap.size) HO0.out).2.2; have hcut7 := cut_to (P := Try.prog) 22 25 .i64 Try.underlying22 hi07 A0 l0.length c0 (ji3) (od (by first | (with_reducible assumption) | assumption)) q7 hroom7; have hr7 := Kd.F_take (m := ((ji3) : Int).toNat) hC7 (by omega); have hy7 : y123.length = ((ji3) : Int).toNat := (by rw [Ny123.out, List.length_take]; omega); rw [← Ny123.out] at hr7; rw [← hy7] at hcut7; have HO127 := aS (show Kd.V k25 25 _ w.heap.size _ (.slice A0 y123.length c0) y123 from Kd.V_mk (by omega) hr7); have HC127 := aS (show y123.length ≤ c0 from by omega); clear hr7 hC7 hroom7 hi07 hsz7; have KY7 := aS hy7; clear hy7; replace q7 := eq_true q7))
   go_ret
   exact ⟨_, by first | rfl | (simp [errW_none, errW_some] <;> rfl) | (simp only [← hji3]; first | rfl | (simp [errW_none, errW_some] <;> rfl)) | (simp [*, errW_none, errW_some] <;> rfl), by (with_reducible repeat (first | apply vA | apply vN | apply vD)); exact HO127.out, by repeat (first | (with_reducible first | exact HB.out | apply bA | apply bN | apply bD) | exact HB.out)⟩
  ·rw [if_neg c5] at H
   exact absurd H (by simp)
 ·rw [if_neg c4] at H
  exact absurd H (by simp)

/-! ### active_Clear: function 11 -/
def active_Clear.f (k : Nat) (l0 : List (S25)) : Option ((List (S25)) × Int) := (active_Check.f l0).bind fun t128 => (if t128 = 0 then ((active_own.f k l0).bind fun t129 => ((active_Cleared.f k t129).bind fun t132 => (some (t132, 0)))) else (some (([] : List (S25)), t128)))
theorem active_Clear.mono : ∀ a0 k, LeO (active_Clear.f k a0) (active_Clear.f (k + 1) a0) := by
 intro a0 k
 unfold active_Clear.f
 repeat' first
  | (with_reducible exact active_Cleared.mono _ _)
  | (with_reducible exact active_own.mono _ _)
  | (with_reducible exact LeO.refl _)
  | (with_reducible exact LeO.none _)
  | (with_reducible refine LeO.ite ?_ ?_)
  | (with_reducible refine LeO.bind ?_ (fun _ => ?_))
  | exact active_Cleared.mono _ _
  | exact active_own.mono _ _
  | exact LeO.none _
  | refine LeO.ite ?_ ?_
  | refine LeO.bind ?_ (fun _ => ?_)
set_option maxHeartbeats 8000000 in
set_option maxRecDepth 100000 in
theorem active_Clear.calls (k : Nat) (P0_ : Nat → Prop) (A0 : Option Addr) (c0 : Nat) (l0 : List (S25)) (r1 : List (S25)) (r2 : Int) (w : World) (hs0 : Kd.V k25 25 w w.heap.size (fun k_ => P0_ k_) (.slice A0 l0.length c0) l0) (h : active_Clear.f k l0 = some (r1, r2)) :
 Calls Try.prog 11 #[.slice A0 l0.length c0] w fun e w' => ∃ v0_ : Value, e = .returned (.tuple #[v0_, .int .i64 r2]) ∧ Kd.V k25 25 w' w.heap.size (fun k_ => (P0_ k_ ∨ w.heap.size ≤ k_)) v0_ r1 ∧ Below w.heap.size w w' := by
 have HO0 := aS (show Kd.V k25 25 w w.heap.size (fun k_ => (P0_ k_ ∨ w.heap.size ≤ k_)) (.slice A0 l0.length c0) l0 from Kd.V_mono hs0 (fun k_ hk => .inl hk))
 have HB := aS (Below.refl w.heap.size w)
 have H : ((active_Check.f l0).bind fun t128 => (if t128 = 0 then ((active_own.f k l0).bind fun t129 => ((active_Cleared.f k t129).bind fun t132 => (some (t132, 0)))) else (some (([] : List (S25)), t128)))) = some (r1, r2) := h
 clear h
 replace H := Option.bind_eq_some_iff.mp H
 obtain ⟨t128, A20, H⟩ := H
 replace H : (if t128 = 0 then ((active_own.f k l0).bind fun t129 => ((active_Cleared.f k t129).bind fun t132 => (some (t132, 0)))) else (some (([] : List (S25)), t128))) = some (r1, r2) := H
 have A2 := aS A20
 clear A20
 by_cases c3 : t128 = 0
 ·rw [if_pos c3] at H
  have c3b0 : (t128 == 0) = true := beq_iff_eq.mpr c3
  have c3b1 : (t128 != 0) = false := bne_eq_false_iff_eq.mpr c3
  clear c3
  replace H := Option.bind_eq_some_iff.mp H
  obtain ⟨t129, A40, H⟩ := H
  replace H : ((active_Cleared.f k t129).bind fun t132 => (some (t132, 0))) = some (r1, r2) := H
  have A4 := aS A40
  clear A40
  replace H := Option.bind_eq_some_iff.mp H
  obtain ⟨t132, A50, H⟩ := H
  replace H : (some (t132, 0)) = some (r1, r2) := H
  have A5 := aS A50
  clear A50
  simp only [Option.some.injEq, Prod.mk.injEq] at H
  obtain ⟨rfl, rfl⟩ := H
  go_enter Try.func11, Try.ntmps11
  go_wp2_with (first | ((with_reducible refine gate_callee (f := 16) rfl ?_); refine goesL_ (some 6) rfl rfl Try.func16 (by kernel_rfl) rfl #[.slice A0 l0.length c0] rfl (by (try simp only [List.map_toArray, List.map_cons, List.map_nil]); first | done | rfl | (simp only [List.length_drop, List.length_take]; rfl)) ?_; (with_reducible refine (active_Check.calls _ _ l0 t128 _ ?side1 ?side2 A2.out).mono ?_); (case side1 => repeat (first | exact (Kd.V_reads' HO0.out).2.2 | (with_reducible refine cA ?_ _) | (with_reducible refine cN ?_ _) | (with_reducible refine cD ?_))); (case side2 => exact (Kd.V_reads' HO0.out).2.1); rintro e w6 ⟨rfl, hb⟩; refine ⟨_, rfl, ?_⟩; have n0_ := aS (Kd.V_below (by (with_reducible repeat (first | apply vA | apply vN | apply vD)); exact HO0.out) hb); have n1_ := aS (below_step (by repeat (first | (with_reducible first | exact HB.out | apply bA | apply bN | apply bD) | exact HB.out)) hb); clear HO0; clear HB; have HO0 := n0_; have HB := n1_; clear n0_ n1_; (try clear hb); (try clear hb2); (try clear hk); (try clear hi)) | ((with_reducible refine gate_callee (f := 48) rfl ?_); refine goesL_ (some 11) rfl rfl Try.func48 (by kernel_rfl) rfl #[.slice A0 l0.length c0] rfl (by (try simp only [List.map_toArray, List.map_cons, List.map_nil]); first | done | rfl | (simp only [List.length_drop, List.length_take]; rfl)) ?_; (with_reducible refine (active_own.calls k (fun k_ => (P0_ k_ ∨ w.heap.size ≤ k_)) _ _ l0 t129 _ ?side1 A4.out).mono ?_); (case side1 => exact HO0.out); rintro e w7 ⟨v130, rfl, ho0, hb⟩; refine ⟨_, rfl, ?_⟩; have n0_ := aS (Kd.V_elder' (by (with_reducible repeat (first | apply vA | apply vN | apply vD)); exact HO0.out) (Kd.N_base ho0) hb); have n1_ := aS (Kd.N_lower (Kd.N_mono (ok' := fun k_ => (P0_ k_ ∨ w.heap.size ≤ k_)) ho0 (fun k_ hk_ => Or.elim hk_ (fun hs_ => hs_) (fun hn_ => (.inr (Nat.le_trans (below_size (by repeat (first | (with_reducible first | exact HB.out | apply bA | apply bN | apply bD) | exact HB.out))) hn_))))) (below_size (by repeat (first | (with_reducible first | exact HB.out | apply bA | apply bN | apply bD) | exact HB.out)))); have n2_ := aS (below_step (by repeat (first | (with_reducible first | exact HB.out | apply bA | apply bN | apply bD) | exact HB.out)) hb); clear HO0; clear HB; have HO0 := n0_; have HO131 := n1_; have HB := n2_; clear n0_ n1_ n2_; (try clear hb); (try clear hb2); (try clear hk); (try clear hi); (try clear ho0); obtain ⟨Ao8, co8, eo8⟩ := Kd.N_slice HO131.out; subst eo8) | ((with_reducible refine gate_callee (f := 51) rfl ?_); refine goesL_ (some 12) rfl rfl Try.func51 (by kernel_rfl) rfl #[.slice Ao8 t129.length co8] rfl (by (try simp only [List.map_toArray, List.map_cons, List.map_nil]); first | done | rfl | (simp only [List.length_drop, List.length_take]; rfl)) ?_; (with_reducible refine (active_Cleared.calls k (fun k_ => (P0_ k_ ∨ w.heap.size ≤ k_)) _ _ t129 t132 _ ?side1 A5.out).mono ?_); (case side1 => exact Kd.N_V (HO131.out)); rintro e w9 ⟨v133, rfl, ho0, hb⟩; refine ⟨_, rfl, ?_⟩; have n0_ := aS (Kd.V_below (by (with_reducible repeat (first | apply vA | apply vN | apply vD)); exact HO0.out) hb); have n1_ := aS (Kd.N_below (by (with_reducible repeat (first | apply nA | apply nN | apply nD)); exact HO131.out) hb); have n2_ := aS (Kd.V_lower (Kd.V_mono (ok' := fun k_ => (P0_ k_ ∨ w.heap.size ≤ k_)) ho0 (fun k_ hk_ => Or.elim hk_ (fun hs_ => hs_) (fun hn_ => (.inr (Nat.le_trans (below_size (by repeat (first | (with_reducible first | exact HB.out | apply bA | apply bN | apply bD) | exact HB.out))) hn_))))) (below_size (by repeat (first | (with_reducible first | exact HB.out | apply bA | apply bN | apply bD) | exact HB.out)))); have n3_ := aS (below_step (by repeat (first | (with_reducible first | exact HB.out | apply bA | apply bN | apply bD) | exact HB.out)) hb); clear HO0; clear HO131; clear HB; have HO0 := n0_; have HO131 := n1_; have HO134 := n2_; have HB := n3_; clear n0_ n1_ n2_ n3_; (try clear hb); (try clear hb2); (try clear hk); (try clear hi); (try clear ho0)))
  go_ret2
  exact ⟨_, by first | rfl | (simp [errW_none, errW_some] <;> rfl) | (simp [*, errW_none, errW_some] <;> rfl), by (with_reducible repeat (first | apply vA | apply vN | apply vD)); exact HO134.out, by repeat (first | (with_reducible first | exact HB.out | apply bA | apply bN | apply bD) | exact HB.out)⟩
 ·rw [if_neg c3] at H
  have c3b0 : (t128 == 0) = false := beq_eq_false_iff_ne.mpr c3
  have c3b1 : (t128 != 0) = true := bne_iff_ne.mpr c3
  simp only [Option.some.injEq, Prod.mk.injEq] at H
  obtain ⟨rfl, rfl⟩ := H
  go_enter Try.func11, Try.ntmps11
  go_wp2_with (first | ((with_reducible refine gate_callee (f := 16) rfl ?_); refine goesL_ (some 6) rfl rfl Try.func16 (by kernel_rfl) rfl #[.slice A0 l0.length c0] rfl (by (try simp only [List.map_toArray, List.map_cons, List.map_nil]); first | done | rfl | (simp only [List.length_drop, List.length_take]; rfl)) ?_; (with_reducible refine (active_Check.calls _ _ l0 t128 _ ?side1 ?side2 A2.out).mono ?_); (case side1 => repeat (first | exact (Kd.V_reads' HO0.out).2.2 | (with_reducible refine cA ?_ _) | (with_reducible refine cN ?_ _) | (with_reducible refine cD ?_))); (case side2 => exact (Kd.V_reads' HO0.out).2.1); rintro e w10 ⟨rfl, hb⟩; refine ⟨_, rfl, ?_⟩; have n0_ := aS (Kd.V_below (by (with_reducible repeat (first | apply vA | apply vN | apply vD)); exact HO0.out) hb); have n1_ := aS (below_step (by repeat (first | (with_reducible first | exact HB.out | apply bA | apply bN | apply bD) | exact HB.out)) hb); clear HO0; clear HB; have HO0 := n0_; have HB := n1_; clear n0_ n1_; (try clear hb); (try clear hb2); (try clear hk); (try clear hi)))
  go_ret2
  exact ⟨_, by first | rfl | (simp [errW_none, errW_some] <;> rfl) | (simp [*, errW_none, errW_some] <;> rfl), (by first | exact Kd.V_nil _ _ _ _ _ | exact Kd.N_V (base := 0) (Kd.N_nil _ _ _ _ _)), by repeat (first | (with_reducible first | exact HB.out | apply bA | apply bN | apply bD) | exact HB.out)⟩

/-! ### clerestoryref1_ActiveCheck: function 12 -/
def clerestoryref1_ActiveCheck.l0 : Nat → List (S25) → Int → Option (Int)
 | 0, _, _ => none
 | k + 1, x0, x3 => if x3 < (x0.length : Int) then (if 0 ≤ x3 then (if ((rd_T25 x0 x3).f0) < (-1) then (some 3) else (if ((rd_T25 x0 x3).f0) = (-1) then (if ((rd_T25 x0 x3).f1).toList = ([] : List UInt8) then (if (((rd_T25 x0 x3).f2).length : Int) > 0 then (some 3) else (clerestoryref1_ActiveCheck.l0 k x0 (wrap64 (x3 + 1)))) else (some 3)) else (clerestoryref1_ActiveCheck.l0 k x0 (wrap64 (x3 + 1))))) else (none)) else (some 0)
def clerestoryref1_ActiveCheck.f (k : Nat) (l0 : List (S25)) : Option (Int) := if (l0.length : Int) > 60 then (some 2) else (clerestoryref1_ActiveCheck.l0 k l0 0)
theorem clerestoryref1_ActiveCheck.mono_l : ∀ k, (∀ y0 y1, LeO (clerestoryref1_ActiveCheck.l0 k y0 y1) (clerestoryref1_ActiveCheck.l0 (k + 1) y0 y1))
 | 0 => fun _ _ r h => by simp [clerestoryref1_ActiveCheck.l0] at h
 | k + 1 => by
  have ih0 := clerestoryref1_ActiveCheck.mono_l k
  ·intro y0 y1
   unfold clerestoryref1_ActiveCheck.l0
   repeat' first
   | (with_reducible exact ih0 _ _)
   | (with_reducible exact LeO.refl _)
   | (with_reducible exact LeO.none _)
   | (with_reducible refine LeO.ite ?_ ?_)
   | (with_reducible refine LeO.bind ?_ (fun _ => ?_))
   | exact ih0 _ _
   | exact LeO.none _
   | refine LeO.ite ?_ ?_
   | refine LeO.bind ?_ (fun _ => ?_)
theorem clerestoryref1_ActiveCheck.mono : ∀ a0 k, LeO (clerestoryref1_ActiveCheck.f k a0) (clerestoryref1_ActiveCheck.f (k + 1) a0) := by
 intro a0 k
 have ih0 := clerestoryref1_ActiveCheck.mono_l k
 unfold clerestoryref1_ActiveCheck.f
 repeat' first
  | (with_reducible exact ih0 _ _)
  | (with_reducible exact LeO.refl _)
  | (with_reducible exact LeO.none _)
  | (with_reducible refine LeO.ite ?_ ?_)
  | (with_reducible refine LeO.bind ?_ (fun _ => ?_))
  | exact ih0 _ _
  | exact LeO.none _
  | refine LeO.ite ?_ ?_
  | refine LeO.bind ?_ (fun _ => ?_)
set_option maxHeartbeats 8000000 in
set_option maxRecDepth 100000 in
theorem clerestoryref1_ActiveCheck.calls (k : Nat) (A0 : Option Addr) (c0 : Nat) (l0 : List (S25)) (r : Int) (w : World) (hr0 : Kd.C k25 w A0 l0.length l0) (hc0 : l0.length ≤ c0) (h : clerestoryref1_ActiveCheck.f k l0 = some r) :
 Calls Try.prog 12 #[.slice A0 l0.length c0] w fun e w' => e = .returned (.int .i64 r) ∧ Drawn0 w w' := by
 have HR0 := aS hr0
 have HC0 := aS hc0
 clear hr0 hc0
 have H : (if (l0.length : Int) > 60 then (some 2) else (clerestoryref1_ActiveCheck.l0 k l0 0)) = some r := h
 clear h
 by_cases c2 : (l0.length : Int) > 60
 ·rw [if_pos c2] at H
  have c2b0 : decide (60 < (l0.length : Int)) = true := decide_eq_true c2
  have c2b1 : decide (60 < l0.length) = true := decide_eq_true (by omega)
  clear c2
  obtain rfl := Option.some.inj H
  go_enter Try.func12, Try.ntmps12
  go_wp2
  go_ret
  exact ⟨by first | rfl | (simp; done) | (simp [*]; done), by repeat (first | exact Drawn0.refl _ | apply Drawn0.step)⟩
 ·rw [if_neg c2] at H
  have c2b0 : decide (60 < (l0.length : Int)) = false := decide_eq_false c2
  have c2b1 : decide (60 < l0.length) = false := decide_eq_false (by omega)
  clear c2
  have H' := aS H
  clear H
  go_enter Try.func12, Try.ntmps12
  go_wp2
  go_loopg [3] k (fun kq v3 w' => ∃ (x3_1 : Int), v3 = .int .i64 x3_1 ∧ Aside0 (clerestoryref1_ActiveCheck.l0 kq l0 x3_1 = some r) ∧ Aside0 (kq ≤ k) ∧ Drawn0 w w')
  case atStart => exact ⟨(0), (by first | rfl | (simp; done) | simp [*]), H', ⟨Nat.le_refl _⟩, by repeat (first | exact Drawn0.refl _ | apply Drawn0.step)⟩
  case round =>
   clear H'
   try clear c1
   try clear c2
   try clear c2b0
   try clear c2b1
   try clear p2
   obtain ⟨x3_1, rfl, HA, HK1, ⟨m1, rfl⟩⟩ := hrel
   cases gk with
   | zero => exact absurd HA.out (by simp [clerestoryref1_ActiveCheck.l0])
   | succ k1 =>
    have H := HA.out
    clear HA
    simp only [clerestoryref1_ActiveCheck.l0] at H
    by_cases c3 : x3_1 < (l0.length : Int)
    ·rw [if_pos c3] at H
     have c3b0 : decide (x3_1 < (l0.length : Int)) = true := decide_eq_true c3
     clear c3
     by_cases c4 : 0 ≤ x3_1
     ·rw [if_pos c4] at H
      have c4b0 : decide (0 ≤ x3_1) = true := decide_eq_true c4
      clear c4
      by_cases c5 : ((rd_T25 l0 x3_1).f0) < (-1)
      ·rw [if_pos c5] at H
       have c5b0 : decide (((rd_T25 l0 x3_1).f0) < (-1)) = true := decide_eq_true c5
       clear c5
       obtain rfl := Option.some.inj H
       have p135 : 0 ≤ (x3_1 : Int) := od (by first | (with_reducible assumption) | assumption)
       have q135 : x3_1 < (l0.length : Int) := od (by first | (with_reducible assumption) | assumption)
       obtain ⟨ad135, A135_2, c135_2, e135, hx135_0, hx135_1, hx135_2, hl135_2, hi135_2⟩ := at_T25 HR0.out x3_1 p135 q135
       cases e135
       have HR135_2 := aS hi135_2
       have HC135_2 := aS hl135_2
       clear hi135_2 hl135_2
       replace p135 := eq_true p135
       replace q135 := eq_true q135
       go_wp2
       go_ret
       exact ⟨by first | rfl | (simp; done) | (simp [*]; done), by repeat (first | exact Drawn0.refl _ | apply Drawn0.step)⟩
      ·rw [if_neg c5] at H
       have c5b0 : decide (((rd_T25 l0 x3_1).f0) < (-1)) = false := decide_eq_false c5
       clear c5
       by_cases c6 : ((rd_T25 l0 x3_1).f0) = (-1)
       ·rw [if_pos c6] at H
        have c6b0 : (((rd_T25 l0 x3_1).f0) == (-1)) = true := beq_iff_eq.mpr c6
        have c6b1 : (((rd_T25 l0 x3_1).f0) != (-1)) = false := bne_eq_false_iff_eq.mpr c6
        clear c6
        by_cases c7 : ((rd_T25 l0 x3_1).f1).toList = ([] : List UInt8)
        ·rw [if_pos c7] at H
         have c7b0 : (((rd_T25 l0 x3_1).f1).toList == ([] : List UInt8)) = true := beq_iff_eq.mpr c7
         have c7b1 : (((rd_T25 l0 x3_1).f1).toList != ([] : List UInt8)) = false := bne_eq_false_iff_eq.mpr c7
         clear c7
         by_cases c8 : (((rd_T25 l0 x3_1).f2).length : Int) > 0
         ·rw [if_pos c8] at H
          have c8b0 : decide (0 < (((rd_T25 l0 x3_1).f2).length : Int)) = true := decide_eq_true c8
          have c8b1 : decide (0 < ((rd_T25 l0 x3_1).f2).length) = true := decide_eq_true (by omega)
          clear c8
          obtain rfl := Option.some.inj H
          have p135 : 0 ≤ (x3_1 : Int) := od (by first | (with_reducible assumption) | assumption)
          have q135 : x3_1 < (l0.length : Int) := od (by first | (with_reducible assumption) | assumption)
          obtain ⟨ad135, A135_2, c135_2, e135, hx135_0, hx135_1, hx135_2, hl135_2, hi135_2⟩ := at_T25 HR0.out x3_1 p135 q135
          cases e135
          have HR135_2 := aS hi135_2
          have HC135_2 := aS hl135_2
          clear hi135_2 hl135_2
          replace p135 := eq_true p135
          replace q135 := eq_true q135
          have p136 : 0 ≤ (x3_1 : Int) := od (by first | (with_reducible assumption) | assumption)
          have q136 : x3_1 < (l0.length : Int) := od (by first | (with_reducible assumption) | assumption)
          obtain ⟨ad136, A136_2, c136_2, e136, hx136_0, hx136_1, hx136_2, hl136_2, hi136_2⟩ := at_T25 HR0.out x3_1 p136 q136
          obtain rfl : ad135 = ad136 := (by injection e136)
          have HR136_2 := aS hi136_2
          have HC136_2 := aS hl136_2
          clear hi136_2 hl136_2
          replace p136 := eq_true p136
          replace q136 := eq_true q136
          have ea_ := Option.some.inj (hx135_2.symm.trans hx136_2)
          injection ea_ with ea_ en_ ec_
          subst ea_
          subst ec_
          clear en_
          have p137 : 0 ≤ (x3_1 : Int) := od (by first | (with_reducible assumption) | assumption)
          have q137 : x3_1 < (l0.length : Int) := od (by first | (with_reducible assumption) | assumption)
          obtain ⟨ad137, A137_2, c137_2, e137, hx137_0, hx137_1, hx137_2, hl137_2, hi137_2⟩ := at_T25 HR0.out x3_1 p137 q137
          obtain rfl : ad135 = ad137 := (by injection e137)
          have HR137_2 := aS hi137_2
          have HC137_2 := aS hl137_2
          clear hi137_2 hl137_2
          replace p137 := eq_true p137
          replace q137 := eq_true q137
          have ea_ := Option.some.inj (hx135_2.symm.trans hx137_2)
          injection ea_ with ea_ en_ ec_
          subst ea_
          subst ec_
          clear en_
          have p138 : 0 ≤ (x3_1 : Int) := od (by first | (with_reducible assumption) | assumption)
          have q138 : x3_1 < (l0.length : Int) := od (by first | (with_reducible assumption) | assumption)
          obtain ⟨ad138, A138_2, c138_2, e138, hx138_0, hx138_1, hx138_2, hl138_2, hi138_2⟩ := at_T25 HR0.out x3_1 p138 q138
          obtain rfl : ad135 = ad138 := (by injection e138)
          have HR138_2 := aS hi138_2
          have HC138_2 := aS hl138_2
          clear hi138_2 hl138_2
          replace p138 := eq_true p138
          replace q138 := eq_true q138
          have ea_ := Option.some.inj (hx135_2.symm.trans hx138_2)
          injection ea_ with ea_ en_ ec_
          subst ea_
          subst ec_
          clear en_
          go_wp2
          go_ret
          exact ⟨by first | rfl | (simp; done) | (simp [*]; done), by repeat (first | exact Drawn0.refl _ | apply Drawn0.step)⟩
         ·rw [if_neg c8] at H
          have c8b0 : decide (0 < (((rd_T25 l0 x3_1).f2).length : Int)) = false := decide_eq_false c8
          have c8b1 : decide (0 < ((rd_T25 l0 x3_1).f2).length) = false := decide_eq_false (by omega)
          clear c8
          have H' := aS H
          clear H
          have p135 : 0 ≤ (x3_1 : Int) := od (by first | (with_reducible assumption) | assumption)
          have q135 : x3_1 < (l0.length : Int) := od (by first | (with_reducible assumption) | assumption)
          obtain ⟨ad135, A135_2, c135_2, e135, hx135_0, hx135_1, hx135_2, hl135_2, hi135_2⟩ := at_T25 HR0.out x3_1 p135 q135
          cases e135
          have HR135_2 := aS hi135_2
          have HC135_2 := aS hl135_2
          clear hi135_2 hl135_2
          replace p135 := eq_true p135
          replace q135 := eq_true q135
          have p136 : 0 ≤ (x3_1 : Int) := od (by first | (with_reducible assumption) | assumption)
          have q136 : x3_1 < (l0.length : Int) := od (by first | (with_reducible assumption) | assumption)
          obtain ⟨ad136, A136_2, c136_2, e136, hx136_0, hx136_1, hx136_2, hl136_2, hi136_2⟩ := at_T25 HR0.out x3_1 p136 q136
          obtain rfl : ad135 = ad136 := (by injection e136)
          have HR136_2 := aS hi136_2
          have HC136_2 := aS hl136_2
          clear hi136_2 hl136_2
          replace p136 := eq_true p136
          replace q136 := eq_true q136
          have ea_ := Option.some.inj (hx135_2.symm.trans hx136_2)
          injection ea_ with ea_ en_ ec_
          subst ea_
          subst ec_
          clear en_
          have p137 : 0 ≤ (x3_1 : Int) := od (by first | (with_reducible assumption) | assumption)
          have q137 : x3_1 < (l0.length : Int) := od (by first | (with_reducible assumption) | assumption)
          obtain ⟨ad137, A137_2, c137_2, e137, hx137_0, hx137_1, hx137_2, hl137_2, hi137_2⟩ := at_T25 HR0.out x3_1 p137 q137
          obtain rfl : ad135 = ad137 := (by injection e137)
          have HR137_2 := aS hi137_2
          have HC137_2 := aS hl137_2
          clear hi137_2 hl137_2
          replace p137 := eq_true p137
          replace q137 := eq_true q137
          have ea_ := Option.some.inj (hx135_2.symm.trans hx137_2)
          injection ea_ with ea_ en_ ec_
          subst ea_
          subst ec_
          clear en_
          have p138 : 0 ≤ (x3_1 : Int) := od (by first | (with_reducible assumption) | assumption)
          have q138 : x3_1 < (l0.length : Int) := od (by first | (with_reducible assumption) | assumption)
          obtain ⟨ad138, A138_2, c138_2, e138, hx138_0, hx138_1, hx138_2, hl138_2, hi138_2⟩ := at_T25 HR0.out x3_1 p138 q138
          obtain rfl : ad135 = ad138 := (by injection e138)
          have HR138_2 := aS hi138_2
          have HC138_2 := aS hl138_2
          clear hi138_2 hl138_2
          replace p138 := eq_true p138
          replace q138 := eq_true q138
          have ea_ := Option.some.inj (hx135_2.symm.trans hx138_2)
          injection ea_ with ea_ en_ ec_
          subst ea_
          subst ec_
          clear en_
          go_wp2
          go_roundg k1
          case measure => have := HK1.out; omega
          case rel => exact ⟨(wrap64 (x3_1 + 1)), (by first | rfl | (simp; done) | simp [*]), H', ⟨by have := HK1.out; omega⟩, by repeat (first | exact Drawn0.refl _ | apply Drawn0.step)⟩
        ·rw [if_neg c7] at H
         have c7b0 : (((rd_T25 l0 x3_1).f1).toList == ([] : List UInt8)) = false := beq_eq_false_iff_ne.mpr c7
         have c7b1 : (((rd_T25 l0 x3_1).f1).toList != ([] : List UInt8)) = true := bne_iff_ne.mpr c7
         obtain rfl := Option.some.inj H
         have p135 : 0 ≤ (x3_1 : Int) := od (by first | (with_reducible assumption) | assumption)
         have q135 : x3_1 < (l0.length : Int) := od (by first | (with_reducible assumption) | assumption)
         obtain ⟨ad135, A135_2, c135_2, e135, hx135_0, hx135_1, hx135_2, hl135_2, hi135_2⟩ := at_T25 HR0.out x3_1 p135 q135
         cases e135
         have HR135_2 := aS hi135_2
         have HC135_2 := aS hl135_2
         clear hi135_2 hl135_2
         replace p135 := eq_true p135
         replace q135 := eq_true q135
         have p136 : 0 ≤ (x3_1 : Int) := od (by first | (with_reducible assumption) | assumption)
         have q136 : x3_1 < (l0.length : Int) := od (by first | (with_reducible assumption) | assumption)
         obtain ⟨ad136, A136_2, c136_2, e136, hx136_0, hx136_1, hx136_2, hl136_2, hi136_2⟩ := at_T25 HR0.out x3_1 p136 q136
         obtain rfl : ad135 = ad136 := (by injection e136)
         have HR136_2 := aS hi136_2
         have HC136_2 := aS hl136_2
         clear hi136_2 hl136_2
         replace p136 := eq_true p136
         replace q136 := eq_true q136
         have ea_ := Option.some.inj (hx135_2.symm.trans hx136_2)
         injection ea_ with ea_ en_ ec_
         subst ea_
         subst ec_
         clear en_
         have p137 : 0 ≤ (x3_1 : Int) := od (by first | (with_reducible assumption) | assumption)
         have q137 : x3_1 < (l0.length : Int) := od (by first | (with_reducible assumption) | assumption)
         obtain ⟨ad137, A137_2, c137_2, e137, hx137_0, hx137_1, hx137_2, hl137_2, hi137_2⟩ := at_T25 HR0.out x3_1 p137 q137
         obtain rfl : ad135 = ad137 := (by injection e137)
         have HR137_2 := aS hi137_2
         have HC137_2 := aS hl137_2
         clear hi137_2 hl137_2
         replace p137 := eq_true p137
         replace q137 := eq_true q137
         have ea_ := Option.some.inj (hx135_2.symm.trans hx137_2)
         injection ea_ with ea_ en_ ec_
         subst ea_
         subst ec_
         clear en_
         go_wp2
         go_ret
         exact ⟨by first | rfl | (simp; done) | (simp [*]; done), by repeat (first | exact Drawn0.refl _ | apply Drawn0.step)⟩
       ·rw [if_neg c6] at H
        have c6b0 : (((rd_T25 l0 x3_1).f0) == (-1)) = false := beq_eq_false_iff_ne.mpr c6
        have c6b1 : (((rd_T25 l0 x3_1).f0) != (-1)) = true := bne_iff_ne.mpr c6
        have H' := aS H
        clear H
        have p135 : 0 ≤ (x3_1 : Int) := od (by first | (with_reducible assumption) | assumption)
        have q135 : x3_1 < (l0.length : Int) := od (by first | (with_reducible assumption) | assumption)
        obtain ⟨ad135, A135_2, c135_2, e135, hx135_0, hx135_1, hx135_2, hl135_2, hi135_2⟩ := at_T25 HR0.out x3_1 p135 q135
        cases e135
        have HR135_2 := aS hi135_2
        have HC135_2 := aS hl135_2
        clear hi135_2 hl135_2
        replace p135 := eq_true p135
        replace q135 := eq_true q135
        have p136 : 0 ≤ (x3_1 : Int) := od (by first | (with_reducible assumption) | assumption)
        have q136 : x3_1 < (l0.length : Int) := od (by first | (with_reducible assumption) | assumption)
        obtain ⟨ad136, A136_2, c136_2, e136, hx136_0, hx136_1, hx136_2, hl136_2, hi136_2⟩ := at_T25 HR0.out x3_1 p136 q136
        obtain rfl : ad135 = ad136 := (by injection e136)
        have HR136_2 := aS hi136_2
        have HC136_2 := aS hl136_2
        clear hi136_2 hl136_2
        replace p136 := eq_true p136
        replace q136 := eq_true q136
        have ea_ := Option.some.inj (hx135_2.symm.trans hx136_2)
        injection ea_ with ea_ en_ ec_
        subst ea_
        subst ec_
        clear en_
        go_wp2
        go_roundg k1
        case measure => have := HK1.out; omega
        case rel => exact ⟨(wrap64 (x3_1 + 1)), (by first | rfl | (simp; done) | simp [*]), H', ⟨by have := HK1.out; omega⟩, by repeat (first | exact Drawn0.refl _ | apply Drawn0.step)⟩
     ·rw [if_neg c4] at H
      exact absurd H (by simp)
    ·rw [if_neg c3] at H
     have c3b0 : decide (x3_1 < (l0.length : Int)) = false := decide_eq_false c3
     clear c3
     obtain rfl := Option.some.inj H
     go_wp2
     go_ret
     exact ⟨by first | rfl | (simp; done) | (simp [*]; done), by repeat (first | exact Drawn0.refl _ | apply Drawn0.step)⟩

end Go.Proofs.Ythecjfkafpndoaa.XAc
