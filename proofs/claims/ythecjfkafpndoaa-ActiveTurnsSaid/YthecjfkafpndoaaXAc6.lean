/- Written by this session's program (wip/xp) out of the translation as Lean prints it: for each Go function a Lean function and the proof that the code answers just so, on the conditions named in each statement. -/
import Derived.Test.YthecjfkafpndoaaXAc0
import Derived.Test.YthecjfkafpndoaaXAc4
import Derived.Test.YthecjfkafpndoaaXAc5
namespace Go.Proofs.Ythecjfkafpndoaa.XAc
open Go.Proofs.Ythecjfkafpndoaa.Short Go.RowKit Go.Proofs.YthecjfkafpndoaaW.PrintWords Go.Proofs.YthecjfkafpndoaaW.PrintLast Go.Proofs.YthecjfkafpndoaaW.PrintMore
attribute [local go_sem] max2_int min2_int max_two min_two max_three min_three max_four min_four   -- for this text's walks alone
set_option linter.unusedVariables false
set_option linter.unusedSimpArgs false

/-! ### clerestoryref1_ActivePush: function 13 -/
mutual
def clerestoryref1_ActivePush.l0 : Nat → List (S25) → List (S25) → Int → Int → Int → Int → ByteArray → List (S99) → Option ((List (S25)))
 | 0, _, _, _, _, _, _, _, _ => none
 | k + 1, x5, x6, x7, x8, x9, x159000, x159001, x159002 => if x9 < (x6.length : Int) then (if 0 ≤ x9 then ((clerestoryref1_ItemsAlike.f k ((rd_T25 x6 x9).f0) ((rd_T25 x6 x9).f1) ((rd_T25 x6 x9).f2) x159000 x159001 x159002).bind fun t166 => (if t166 = true then (if x8 < 0 then (clerestoryref1_ActivePush.l0 k x5 x6 (wrap64 (x7 + 1)) x9 (wrap64 (x9 + 1)) x159000 x159001 x159002) else (clerestoryref1_ActivePush.l0 k x5 x6 (wrap64 (x7 + 1)) x8 (wrap64 (x9 + 1)) x159000 x159001 x159002)) else (clerestoryref1_ActivePush.l0 k x5 x6 x7 x8 (wrap64 (x9 + 1)) x159000 x159001 x159002))) else (none)) else ((some (([] : List (S25)) : List (S25))).bind fun y167 => (if y167.length + x5.length < 2932031007402 then (clerestoryref1_ActivePush.l1 k x6 x7 x8 (y167 ++ x5) 0 x159000 x159001 x159002) else (none)))
def clerestoryref1_ActivePush.l1 : Nat → List (S25) → Int → Int → List (S25) → Int → Int → ByteArray → List (S99) → Option ((List (S25)))
 | 0, _, _, _, _, _, _, _, _ => none
 | k + 1, x6, x7, x8, x10, x11, x159000, x159001, x159002 => if x11 < (x6.length : Int) then (if x7 < 3 then (if 0 ≤ x11 then (if x10.length < 2932031007402 then (clerestoryref1_ActivePush.l1 k x6 x7 x8 (x10 ++ [(⟨(rd_T25 x6 x11).f0, (rd_T25 x6 x11).f1, (rd_T25 x6 x11).f2⟩ : S25)]) (wrap64 (x11 + 1)) x159000 x159001 x159002) else (none)) else (none)) else (if x11 = x8 then (if x159000 = (-1) then (if 0 ≤ x11 then (if x10.length < 2932031007402 then (clerestoryref1_ActivePush.l1 k x6 x7 x8 (x10 ++ [(⟨(rd_T25 x6 x11).f0, (rd_T25 x6 x11).f1, (rd_T25 x6 x11).f2⟩ : S25)]) (wrap64 (x11 + 1)) x159000 x159001 x159002) else (none)) else (none)) else (clerestoryref1_ActivePush.l1 k x6 x7 x8 x10 (wrap64 (x11 + 1)) x159000 x159001 x159002)) else (if 0 ≤ x11 then (if x10.length < 2932031007402 then (clerestoryref1_ActivePush.l1 k x6 x7 x8 (x10 ++ [(⟨(rd_T25 x6 x11).f0, (rd_T25 x6 x11).f1, (rd_T25 x6 x11).f2⟩ : S25)]) (wrap64 (x11 + 1)) x159000 x159001 x159002) else (none)) else (none)))) else (if x10.length < 2932031007402 then (some (x10 ++ [(⟨x159000, x159001, x159002⟩ : S25)])) else (none))
end
def clerestoryref1_ActivePush.f (k : Nat) (l0 : List (S25)) (a1_0 : Int) (a1_1 : ByteArray) (l1_2 : List (S99)) : Option ((List (S25))) := (clerestoryref1_parted.f k l0).bind fun bt159 => (clerestoryref1_ActivePush.l0 k bt159.1 bt159.2 0 (-1) 0 a1_0 a1_1 l1_2)
theorem clerestoryref1_ActivePush.mono_l : ∀ k, (∀ y0 y1 y2 y3 y4 y5 y6 y7, LeO (clerestoryref1_ActivePush.l0 k y0 y1 y2 y3 y4 y5 y6 y7) (clerestoryref1_ActivePush.l0 (k + 1) y0 y1 y2 y3 y4 y5 y6 y7)) ∧ (∀ y0 y1 y2 y3 y4 y5 y6 y7, LeO (clerestoryref1_ActivePush.l1 k y0 y1 y2 y3 y4 y5 y6 y7) (clerestoryref1_ActivePush.l1 (k + 1) y0 y1 y2 y3 y4 y5 y6 y7))
 | 0 => ⟨fun _ _ _ _ _ _ _ _ r h => by simp [clerestoryref1_ActivePush.l0] at h, fun _ _ _ _ _ _ _ _ r h => by simp [clerestoryref1_ActivePush.l1] at h⟩
 | k + 1 => by
  obtain ⟨ih0, ih1⟩ := clerestoryref1_ActivePush.mono_l k
  refine ⟨?_, ?_⟩
  ·intro y0 y1 y2 y3 y4 y5 y6 y7
   unfold clerestoryref1_ActivePush.l0
   repeat' first
   | (with_reducible exact ih0 _ _ _ _ _ _ _ _)
   | (with_reducible exact ih1 _ _ _ _ _ _ _ _)
   | (with_reducible exact clerestoryref1_ItemsAlike.mono _ _ _ _ _ _ _)
   | (with_reducible exact clerestoryref1_parted.mono _ _)
   | (with_reducible exact LeO.refl _)
   | (with_reducible exact LeO.none _)
   | (with_reducible refine LeO.ite ?_ ?_)
   | (with_reducible refine LeO.bind ?_ (fun _ => ?_))
   | exact ih0 _ _ _ _ _ _ _ _
   | exact ih1 _ _ _ _ _ _ _ _
   | exact clerestoryref1_ItemsAlike.mono _ _ _ _ _ _ _
   | exact clerestoryref1_parted.mono _ _
   | exact LeO.none _
   | refine LeO.ite ?_ ?_
   | refine LeO.bind ?_ (fun _ => ?_)
  ·intro y0 y1 y2 y3 y4 y5 y6 y7
   unfold clerestoryref1_ActivePush.l1
   repeat' first
   | (with_reducible exact ih0 _ _ _ _ _ _ _ _)
   | (with_reducible exact ih1 _ _ _ _ _ _ _ _)
   | (with_reducible exact clerestoryref1_ItemsAlike.mono _ _ _ _ _ _ _)
   | (with_reducible exact clerestoryref1_parted.mono _ _)
   | (with_reducible exact LeO.refl _)
   | (with_reducible exact LeO.none _)
   | (with_reducible refine LeO.ite ?_ ?_)
   | (with_reducible refine LeO.bind ?_ (fun _ => ?_))
   | exact ih0 _ _ _ _ _ _ _ _
   | exact ih1 _ _ _ _ _ _ _ _
   | exact clerestoryref1_ItemsAlike.mono _ _ _ _ _ _ _
   | exact clerestoryref1_parted.mono _ _
   | exact LeO.none _
   | refine LeO.ite ?_ ?_
   | refine LeO.bind ?_ (fun _ => ?_)
theorem clerestoryref1_ActivePush.mono : ∀ a0 a1 a2 a3 k, LeO (clerestoryref1_ActivePush.f k a0 a1 a2 a3) (clerestoryref1_ActivePush.f (k + 1) a0 a1 a2 a3) := by
 intro a0 a1 a2 a3 k
 obtain ⟨ih0, ih1⟩ := clerestoryref1_ActivePush.mono_l k
 unfold clerestoryref1_ActivePush.f
 repeat' first
  | (with_reducible exact ih0 _ _ _ _ _ _ _ _)
  | (with_reducible exact ih1 _ _ _ _ _ _ _ _)
  | (with_reducible exact clerestoryref1_ItemsAlike.mono _ _ _ _ _ _ _)
  | (with_reducible exact clerestoryref1_parted.mono _ _)
  | (with_reducible exact LeO.refl _)
  | (with_reducible exact LeO.none _)
  | (with_reducible refine LeO.ite ?_ ?_)
  | (with_reducible refine LeO.bind ?_ (fun _ => ?_))
  | exact ih0 _ _ _ _ _ _ _ _
  | exact ih1 _ _ _ _ _ _ _ _
  | exact clerestoryref1_ItemsAlike.mono _ _ _ _ _ _ _
  | exact clerestoryref1_parted.mono _ _
  | exact LeO.none _
  | refine LeO.ite ?_ ?_
  | refine LeO.bind ?_ (fun _ => ?_)
set_option maxHeartbeats 8000000 in
set_option maxRecDepth 100000 in
theorem clerestoryref1_ActivePush.calls (k : Nat) (P0_ : Nat → Prop) (A0 : Option Addr) (c0 : Nat) (l0 : List (S25)) (a1_0 : Int) (a1_1 : ByteArray) (P1_2_ : Nat → Prop) (A1_2 : Option Addr) (c1_2 : Nat) (l1_2 : List (S99)) (r : List (S25)) (w : World) (hs0 : Kd.V k25 25 w w.heap.size (fun k_ => P0_ k_) (.slice A0 l0.length c0) l0) (hs1_2 : Kd.V k99 99 w w.heap.size (fun k_ => P1_2_ k_) (.slice A1_2 l1_2.length c1_2) l1_2) (h : clerestoryref1_ActivePush.f k l0 a1_0 a1_1 l1_2 = some r) :
 Calls Try.prog 13 #[.slice A0 l0.length c0, .agg #[.int .i64 a1_0, .string a1_1, .slice A1_2 l1_2.length c1_2]] w fun e w' => ∃ v0_ : Value, e = .returned (v0_) ∧ Kd.N k25 25 w' w.heap.size (fun k_ => ((P0_ k_ ∨ P1_2_ k_) ∨ w.heap.size ≤ k_)) v0_ r ∧ Below w.heap.size w w' := by
 have hu25 := Try.underlying25
 have HO0 := aS (show Kd.V k25 25 w w.heap.size (fun k_ => ((P0_ k_ ∨ P1_2_ k_) ∨ w.heap.size ≤ k_)) (.slice A0 l0.length c0) l0 from Kd.V_mono hs0 (fun k_ hk => .inl (.inl hk)))
 have HO1_2 := aS (show Kd.V k99 99 w w.heap.size (fun k_ => ((P0_ k_ ∨ P1_2_ k_) ∨ w.heap.size ≤ k_)) (.slice A1_2 l1_2.length c1_2) l1_2 from Kd.V_mono hs1_2 (fun k_ hk => .inl (.inr hk)))
 have HB := aS (Below.refl w.heap.size w)
 have H : ((clerestoryref1_parted.f k l0).bind fun bt159 => (clerestoryref1_ActivePush.l0 k bt159.1 bt159.2 0 (-1) 0 a1_0 a1_1 l1_2)) = some r := h
 clear h
 replace H := Option.bind_eq_some_iff.mp H
 obtain ⟨⟨t159, t162⟩, A30, H⟩ := H
 replace H : (clerestoryref1_ActivePush.l0 k t159 t162 0 (-1) 0 a1_0 a1_1 l1_2) = some r := H
 have A3 := aS A30
 clear A30
 have H' := aS H
 clear H
 go_enter Try.func13, Try.ntmps13
 go_wp2_with (first | ((with_reducible refine gate_dst (N := 3) rfl ?_); refine box_event ?hg (N := 3) ?hd (cs := #[.int .i64 a1_0, .string a1_1, .slice A1_2 l1_2.length c1_2]) (t := 25) ?hr ?_; (case hd => rfl); (case hg => rfl); (case hr => first | (go_simp; done) | (go_simp; rfl)); intro gb158 hg w4 hbox hb; have n0_ := aS (Kd.V_below (Kd.V_elderB (by (with_reducible repeat (first | apply vA | apply vN | apply vD)); exact HO0.out) gb158 (Nat.le_of_eq hg.symm)) hb); have n1_ := aS (Kd.V_below (Kd.V_elderB (by (with_reducible repeat (first | apply vA | apply vN | apply vD)); exact HO1_2.out) gb158 (Nat.le_of_eq hg.symm)) hb); have n2_ := aS (below_step (by repeat (first | (with_reducible first | exact HB.out | apply bA | apply bN | apply bD) | exact HB.out)) hb); have n3_ := aS (hbox); have n4_ := aS ((by rw [hg]; exact (below_size (by repeat (first | (with_reducible first | exact HB.out | apply bA | apply bN | apply bD) | exact HB.out))) : w.heap.size ≤ gb158)); have n5_ := aS ((by rw [hg]; exact (below_size (by repeat (first | (with_reducible first | exact HB.out | apply bA | apply bN | apply bD) | exact HB.out))) : w.heap.size ≤ gb158)); clear HO0; clear HO1_2; clear HB; have HO0 := n0_; have HO1_2 := n1_; have HB := n2_; have BK158 := n3_; have GW158 := n4_; have GE158 := n5_; clear n0_ n1_ n2_ n3_ n4_ n5_; clear hb hbox hg) | ((with_reducible refine gate_callee (f := 52) rfl ?_); refine goesL_ (some 14) rfl rfl Try.func52 (by kernel_rfl) rfl #[.slice A0 l0.length c0] rfl (by (try simp only [List.map_toArray, List.map_cons, List.map_nil]); first | done | rfl | (simp only [List.length_drop, List.length_take]; rfl)) ?_; (with_reducible refine (clerestoryref1_parted.calls k (fun k_ => (((P0_ k_ ∨ P1_2_ k_) ∨ w.heap.size ≤ k_) ∧ k_ ≠ gb158)) _ _ l0 t159 t162 _ ?side1 A3.out).mono ?_); (case side1 => exact HO0.out); rintro e w5 ⟨v160, v163, rfl, ho0, ho1, hb⟩; refine ⟨_, rfl, ?_⟩; have n0_ := aS (Kd.V_below (by (with_reducible repeat (first | apply vA | apply vN | apply vD)); exact HO0.out) hb); have n1_ := aS (Kd.V_below (by (with_reducible repeat (first | apply vA | apply vN | apply vD)); exact HO1_2.out) hb); have n2_ := aS (Kd.V_lower (Kd.V_mono (ok' := fun k_ => ((P0_ k_ ∨ P1_2_ k_) ∨ w.heap.size ≤ k_) ∧ k_ ≠ gb158) ho0 (fun k_ hk_ => ⟨Or.elim hk_ (fun hs_ => hs_.1) (fun hn_ => (.inr (Nat.le_trans (below_size (by repeat (first | (with_reducible first | exact HB.out | apply bA | apply bN | apply bD | refine bS ?_ GE158.out) | exact HB.out))) hn_))), Or.elim hk_ (fun hs_ => hs_.2) (fun hn_ => (Kd.freshB (g := gb158) (o := .cells #[.int .i64 a1_0, .string a1_1, .slice A1_2 l1_2.length c1_2] 25 (0, 0)) (by (with_reducible repeat (first | refine kN ?_ _ | refine kD ?_ | refine kA ?_ _)); exact BK158.out) k_ hn_))⟩)) (below_size (by repeat (first | (with_reducible first | exact HB.out | apply bA | apply bN | apply bD | refine bS ?_ GE158.out) | exact HB.out)))); have n3_ := aS (Kd.V_lower (Kd.V_mono (ok' := fun k_ => ((P0_ k_ ∨ P1_2_ k_) ∨ w.heap.size ≤ k_) ∧ k_ ≠ gb158) ho1 (fun k_ hk_ => ⟨Or.elim hk_ (fun hs_ => hs_.1) (fun hn_ => (.inr (Nat.le_trans (below_size (by repeat (first | (with_reducible first | exact HB.out | apply bA | apply bN | apply bD | refine bS ?_ GE158.out) | exact HB.out))) hn_))), Or.elim hk_ (fun hs_ => hs_.2) (fun hn_ => (Kd.freshB (g := gb158) (o := .cells #[.int .i64 a1_0, .string a1_1, .slice A1_2 l1_2.length c1_2] 25 (0, 0)) (by (with_reducible repeat (first | refine kN ?_ _ | refine kD ?_ | refine kA ?_ _)); exact BK158.out) k_ hn_))⟩)) (below_size (by repeat (first | (with_reducible first | exact HB.out | apply bA | apply bN | apply bD | refine bS ?_ GE158.out) | exact HB.out)))); have n4_ := aS (blk_below (g := gb158) (o := .cells #[.int .i64 a1_0, .string a1_1, .slice A1_2 l1_2.length c1_2] 25 (0, 0)) (by (with_reducible repeat (first | refine kN ?_ _ | refine kD ?_ | refine kA ?_ _)); exact BK158.out) hb); have n5_ := aS (below_step (by repeat (first | (with_reducible first | exact HB.out | apply bA | apply bN | apply bD | refine bS ?_ GE158.out) | exact HB.out)) hb); clear HO0; clear HO1_2; clear BK158; clear HB; have HO0 := n0_; have HO1_2 := n1_; have HO161 := n2_; have HO164 := n3_; have BK158 := n4_; have HB := n5_; clear n0_ n1_ n2_ n3_ n4_ n5_; (try clear hb); (try clear hb2); (try clear hk); (try clear hi); (try clear ho0); (try clear ho1)))
 go_loopg [7, 8, 9] k (fun kq v7 v8 v9 w' => ∃ (x7_1 : Int) (x8_1 : Int) (x9_1 : Int), v7 = .int .i64 x7_1 ∧ v8 = .int .i64 x8_1 ∧ v9 = .int .i64 x9_1 ∧ Aside0 (clerestoryref1_ActivePush.l0 kq t159 t162 x7_1 x8_1 x9_1 a1_0 a1_1 l1_2 = some r) ∧ Aside0 (kq ≤ k) ∧ Aside0 (Kd.V k25 25 w' w.heap.size (fun k_ => ((P0_ k_ ∨ P1_2_ k_) ∨ w.heap.size ≤ k_) ∧ k_ ≠ gb158) v160 t159) ∧ Aside0 (Kd.V k25 25 w' w.heap.size (fun k_ => ((P0_ k_ ∨ P1_2_ k_) ∨ w.heap.size ≤ k_) ∧ k_ ≠ gb158) v163 t162) ∧ Aside0 (Kd.V k99 99 w' w.heap.size (fun k_ => ((P0_ k_ ∨ P1_2_ k_) ∨ w.heap.size ≤ k_) ∧ k_ ≠ gb158) (.slice A1_2 l1_2.length c1_2) l1_2) ∧ Aside0 (w'.heap[gb158]? = some (.cells #[.int .i64 a1_0, .string a1_1, (.slice A1_2 l1_2.length c1_2)] 25 (0, 0))) ∧ Aside0 (Below w.heap.size w w'))
 case atStart => exact ⟨(0), ((-1)), (0), (by first | rfl | (simp; done) | simp [*]), (by first | rfl | (simp; done) | simp [*]), (by first | rfl | (simp; done) | simp [*]), H', ⟨Nat.le_refl _⟩, ⟨by (with_reducible repeat (first | apply vA | apply vN | apply vD)); exact HO161.out⟩, ⟨by (with_reducible repeat (first | apply vA | apply vN | apply vD)); exact HO164.out⟩, ⟨by (with_reducible repeat (first | apply vA | apply vN | apply vD)); exact HO1_2.out⟩, ⟨by (with_reducible repeat (first | refine kN ?_ _ | refine kD ?_ | refine kA ?_ _)); exact BK158.out⟩, ⟨by repeat (first | (with_reducible first | exact HB.out | apply bA | apply bN | apply bD | refine bS ?_ GE158.out) | exact HB.out)⟩⟩
 case round =>
  clear H'
  try clear c1
  try clear p2
  try clear c5
  obtain ⟨x7_1, x8_1, x9_1, rfl, rfl, rfl, HA, HK1, HO_5, HO_6, HO_159002, BK158, HB⟩ := hrel
  cases gk with
  | zero => exact absurd HA.out (by simp [clerestoryref1_ActivePush.l0])
  | succ k1 =>
   have H := HA.out
   clear HA
   simp only [clerestoryref1_ActivePush.l0] at H
   by_cases c6 : x9_1 < (t162.length : Int)
   ·rw [if_pos c6] at H
    have c6b0 : decide (x9_1 < (t162.length : Int)) = true := decide_eq_true c6
    clear c6
    by_cases c7 : 0 ≤ x9_1
    ·rw [if_pos c7] at H
     have c7b0 : decide (0 ≤ x9_1) = true := decide_eq_true c7
     clear c7
     replace H := Option.bind_eq_some_iff.mp H
     obtain ⟨t166, A80, H⟩ := H
     replace H : (if t166 = true then (if x8_1 < 0 then (clerestoryref1_ActivePush.l0 k1 t159 t162 (wrap64 (x7_1 + 1)) x9_1 (wrap64 (x9_1 + 1)) a1_0 a1_1 l1_2) else (clerestoryref1_ActivePush.l0 k1 t159 t162 (wrap64 (x7_1 + 1)) x8_1 (wrap64 (x9_1 + 1)) a1_0 a1_1 l1_2)) else (clerestoryref1_ActivePush.l0 k1 t159 t162 x7_1 x8_1 (wrap64 (x9_1 + 1)) a1_0 a1_1 l1_2)) = some r := H
     have A8 := aS A80
     clear A80
     by_cases c9 : t166 = true
     ·subst c9
      have H1 : (if x8_1 < 0 then (clerestoryref1_ActivePush.l0 k1 t159 t162 (wrap64 (x7_1 + 1)) x9_1 (wrap64 (x9_1 + 1)) a1_0 a1_1 l1_2) else (clerestoryref1_ActivePush.l0 k1 t159 t162 (wrap64 (x7_1 + 1)) x8_1 (wrap64 (x9_1 + 1)) a1_0 a1_1 l1_2)) = some r := by rw [if_pos rfl] at H; exact H
      clear H
      have H := H1
      clear H1
      by_cases c10 : x8_1 < 0
      ·rw [if_pos c10] at H
       have c10b0 : decide (x8_1 < 0) = true := decide_eq_true c10
       clear c10
       have H' := aS H
       clear H
       obtain ⟨Ao11, co11, eo11⟩ := Kd.V_slice HO_6.out
       subst eo11
       try go_wp2
       have n0_ := aS (Kd.V_drew HO_5.out)
       have n1_ := aS (Kd.V_drew HO_6.out)
       have n2_ := aS (Kd.V_drew HO_159002.out)
       have n3_ := aS (blk_drew BK158.out)
       have n4_ := aS (below_drew1 HB.out)
       clear HO_5
       clear HO_6
       clear HO_159002
       clear BK158
       clear HB
       have HO_5 := n0_
       have HO_6 := n1_
       have HO_159002 := n2_
       have BK158 := n3_
       have HB := n4_
       clear n0_ n1_ n2_ n3_ n4_
       have p165 : 0 ≤ (x9_1 : Int) := od (by first | (with_reducible assumption) | assumption)
       have q165 : x9_1 < (t162.length : Int) := od (by first | (with_reducible assumption) | assumption)
       obtain ⟨ad165, A165_2, c165_2, e165, hx165_0, hx165_1, hx165_2, hl165_2, hi165_2⟩ := at_T25 (Kd.V_reads' HO_6.out).2.2 x9_1 p165 q165
       cases e165
       obtain ⟨ce165, hce165, hMe165, hcc165⟩ := Kd.V_get HO_6.out z25 x9_1 p165 (by first | exact q165 | exact od (by first | (with_reducible assumption) | assumption) | (have e_ := (Kd.V_reads' HO_6.out).1; omega))
       obtain ⟨ua165_2, uc165_2, rfl, ul165_2, ge165_2⟩ := k25_openF hMe165
       have hv165_2 := hcc165 2 _ rfl
       rw [add_field _ _ 2 (by omega)] at hv165_2
       replace hv165_2 := Option.some.inj (hv165_2.symm.trans hx165_2)
       injection hv165_2 with hva_ hvn_ hvc_
       rw [hva_] at ge165_2
       rw [hvc_] at ul165_2
       have HL165_2 := aS (show Kd.V k99 99 _ w.heap.size _ _ ((rd_T25 t162 x9_1).f2) from Kd.V_mk ul165_2 ge165_2)
       clear hva_ hvn_ hvc_ ge165_2 ul165_2
       clear hcc165 hce165
       have HR165_2 := aS hi165_2
       have HC165_2 := aS hl165_2
       clear hi165_2 hl165_2
       replace p165 := eq_true p165
       replace q165 := eq_true q165
       refine start_ (n := 6) (S := fun w' => w'.cell? ⟨gb158, 0, none⟩ = some (.int .i64 a1_0) ∧ w'.cell? ⟨gb158, 1, none⟩ = some (.string a1_1) ∧ w'.cell? ⟨gb158, 2, none⟩ = some (.slice A1_2 l1_2.length c1_2) ∧ w'.cell? (ad165.add ((x9_1).toNat * 3)) = some (.int .i64 ((rd_T25 t162 x9_1).f0)) ∧ w'.cell? ⟨(ad165.add ((x9_1).toNat * 3)).block, (ad165.add ((x9_1).toNat * 3)).off + 1, none⟩ = some (.string ((rd_T25 t162 x9_1).f1)) ∧ w'.cell? ⟨(ad165.add ((x9_1).toNat * 3)).block, (ad165.add ((x9_1).toNat * 3)).off + 2, none⟩ = some (.slice A165_2 ((rd_T25 t162 x9_1).f2).length c165_2)) (ds := []) #[false, false, false, false, false, false] (by kernel_rfl) rfl rfl ⟨(blk_cell BK158.out 0).trans rfl, (blk_cell BK158.out 1).trans rfl, (blk_cell BK158.out 2).trans rfl, hx165_0, hx165_1, hx165_2⟩ (fun hHeld => ?_)
       generalize wr.drew = w12 at HO_5 HO_6 HO_159002 BK158 HB HL165_2 HR165_2 hx165_0 hx165_1 hx165_2 hHeld ⊢
       refine pure_ (i := 0) (N := some 23) (v := ?_) (a' := ?_) #[true, false, false, false, false, false] rfl rfl (by kernel_rfl) (fun _ _ _ h => h) (Or.inl ⟨by rfl, ?_⟩) ?_ ?_
       rotate_left
       ·intro w'
        go_simp
        with_reducible rfl
       rotate_left
       ·simp only [Act.put, s1, s2, s3, i64_w, i32_w]
        rfl
       refine pure_ (i := 1) (N := some 24) (v := ?_) (a' := ?_) #[true, true, false, false, false, false] rfl rfl (by kernel_rfl) (fun _ _ _ h => h) (Or.inl ⟨by rfl, ?_⟩) ?_ ?_
       rotate_left
       ·intro w'
        go_simp
        with_reducible rfl
       rotate_left
       ·simp only [Act.put, s1, s2, s3, i64_w, i32_w]
        rfl
       refine pure_ (i := 2) (N := some 25) (v := ?_) (a' := ?_) #[true, true, true, false, false, false] rfl rfl (by kernel_rfl) (fun _ _ _ h => h) (Or.inl ⟨by rfl, ?_⟩) ?_ ?_
       rotate_left
       ·intro w'
        go_simp
        with_reducible rfl
       rotate_left
       ·simp only [Act.put, s1, s2, s3, i64_w, i32_w]
        rfl
       refine take_ (i := 3) (N := some 26) (v := ?_) (a' := ?_) #[true, true, true, true, false, false] rfl rfl (by kernel_rfl) (fun _ _ _ h => h) (Or.inl ⟨by rfl, ?_⟩) hHeld ?_ ?_
       rotate_left
       ·rintro w' ⟨s0, s1, s2, s3, s4, s5⟩
        go_simp
        with_reducible rfl
       rotate_left
       ·simp only [Act.put, s1, s2, s3, i64_w, i32_w]
        rfl
       refine take_ (i := 4) (N := some 27) (v := ?_) (a' := ?_) #[true, true, true, true, true, false] rfl rfl (by kernel_rfl) (fun _ _ _ h => h) (Or.inl ⟨by rfl, ?_⟩) hHeld ?_ ?_
       rotate_left
       ·rintro w' ⟨s0, s1, s2, s3, s4, s5⟩
        go_simp
        with_reducible rfl
       rotate_left
       ·simp only [Act.put, s1, s2, s3, i64_w, i32_w]
        rfl
       refine one_ (i := 5) (N := some 28) #[true, true, true, true, true, true] rfl rfl (by kernel_rfl) (by decide) (fun K hK => ?_)
       refine goes_ Try.func53 (by kernel_rfl) rfl #[.agg #[.int .i64 ((rd_T25 t162 x9_1).f0), .string ((rd_T25 t162 x9_1).f1), .slice A165_2 ((rd_T25 t162 x9_1).f2).length c165_2], .agg #[.int .i64 a1_0, .string a1_1, .slice A1_2 l1_2.length c1_2]] (by rfl) rfl rfl (by (try simp only [List.map_toArray, List.map_cons, List.map_nil]); first | done | rfl | (simp only [List.length_drop, List.length_take]; rfl)) ?_
       with_reducible refine (clerestoryref1_ItemsAlike.calls k1 ((rd_T25 t162 x9_1).f0) ((rd_T25 t162 x9_1).f1) _ _ ((rd_T25 t162 x9_1).f2) a1_0 a1_1 _ _ l1_2 true _ ?side1 ?side2 ?side3 ?side4 A8.out).mono ?_
       (case side1 => repeat (first | exact (by repeat (first | (with_reducible exact HR165_2.out) | (with_reducible refine cA ?_ _) | (with_reducible refine cN ?_ _) | (with_reducible refine cD ?_) | exact HR165_2.out)) | (with_reducible refine cA ?_ _) | (with_reducible refine cN ?_ _) | (with_reducible refine cD ?_)))
       (case side2 => exact HC165_2.out)
       (case side3 => repeat (first | exact (Kd.V_reads' HO_159002.out).2.2 | (with_reducible refine cA ?_ _) | (with_reducible refine cN ?_ _) | (with_reducible refine cD ?_)))
       (case side4 => exact (Kd.V_reads' HO_159002.out).2.1)
       rintro e w13 ⟨rfl, hb⟩
       have HS3_ := (hb.cell (World.block_lt_of_cell? _ _ (hHeld.2.2.2.1))).trans (hHeld.2.2.2.1)
       have HS4_ := (hb.cell (World.block_lt_of_cell? _ _ (hHeld.2.2.2.2.1))).trans (hHeld.2.2.2.2.1)
       have HS5_ := (hb.cell (World.block_lt_of_cell? _ _ (hHeld.2.2.2.2.2))).trans (hHeld.2.2.2.2.2)
       refine ⟨_, rfl, ?_⟩
       have n0_ := aS (Kd.V_below (by (with_reducible repeat (first | apply vA | apply vN | apply vD)); exact HO_5.out) hb)
       have n1_ := aS (Kd.V_below (by (with_reducible repeat (first | apply vA | apply vN | apply vD)); exact HO_6.out) hb)
       have n2_ := aS (Kd.V_below (by (with_reducible repeat (first | apply vA | apply vN | apply vD)); exact HO_159002.out) hb)
       have n3_ := aS (Kd.V_below (by (with_reducible repeat (first | apply vA | apply vN | apply vD)); exact HL165_2.out) hb)
       have n4_ := aS (blk_below (g := gb158) (o := .cells #[.int .i64 a1_0, .string a1_1, .slice A1_2 l1_2.length c1_2] 25 (0, 0)) (by (with_reducible repeat (first | refine kN ?_ _ | refine kD ?_ | refine kA ?_ _)); exact BK158.out) hb)
       have n5_ := aS (Kd.C_below (by repeat (first | (with_reducible exact HR165_2.out) | (with_reducible refine cA ?_ _) | (with_reducible refine cN ?_ _) | (with_reducible refine cD ?_) | exact HR165_2.out)) hb)
       have n6_ := aS (below_step (by repeat (first | (with_reducible first | exact HB.out | apply bA | apply bN | apply bD | refine bS ?_ GE158.out) | exact HB.out)) hb)
       clear HO_5
       clear HO_6
       clear HO_159002
       clear HL165_2
       clear BK158
       clear HR165_2
       clear HB
       have HO_5 := n0_
       have HO_6 := n1_
       have HO_159002 := n2_
       have HL165_2 := n3_
       have BK158 := n4_
       have HR165_2 := n5_
       have HB := n6_
       clear n0_ n1_ n2_ n3_ n4_ n5_ n6_
       (try clear hb)
       (try clear hb2)
       (try clear hk)
       (try clear hi)
       refine hK.out _ _ ⟨(blk_cell BK158.out 0).trans rfl, (blk_cell BK158.out 1).trans rfl, (blk_cell BK158.out 2).trans rfl, HS3_, HS4_, HS5_⟩ (fun hHeld => ?_)
       clear hK K
       refine norm_ (a' := ?_) ?_ ?_
       rotate_left
       ·show Act.put _ (some 28) _ = _
        simp only [Act.put, s1, s2, s3, i64_w, i32_w]
        rfl
       refine done_ (by kernel_rfl) ?_
       try go_wp2
       go_roundg k1
       case measure => have := HK1.out; omega
       case rel => exact ⟨(wrap64 (x7_1 + 1)), (x9_1), (wrap64 (x9_1 + 1)), (by first | rfl | (simp; done) | simp [*]), (by first | rfl | (simp; done) | simp [*]), (by first | rfl | (simp; done) | simp [*]), H', ⟨by have := HK1.out; omega⟩, ⟨by (with_reducible repeat (first | apply vA | apply vN | apply vD)); exact HO_5.out⟩, ⟨by (with_reducible repeat (first | apply vA | apply vN | apply vD)); exact HO_6.out⟩, ⟨by (with_reducible repeat (first | apply vA | apply vN | apply vD)); exact HO_159002.out⟩, ⟨by (with_reducible repeat (first | refine kN ?_ _ | refine kD ?_ | refine kA ?_ _)); exact BK158.out⟩, ⟨by repeat (first | (with_reducible first | exact HB.out | apply bA | apply bN | apply bD | refine bS ?_ GE158.out) | exact HB.out)⟩⟩
      ·rw [if_neg c10] at H
       have c10b0 : decide (x8_1 < 0) = false := decide_eq_false c10
       clear c10
       have H' := aS H
       clear H
       obtain ⟨Ao14, co14, eo14⟩ := Kd.V_slice HO_6.out
       subst eo14
       try go_wp2
       have n0_ := aS (Kd.V_drew HO_5.out)
       have n1_ := aS (Kd.V_drew HO_6.out)
       have n2_ := aS (Kd.V_drew HO_159002.out)
       have n3_ := aS (blk_drew BK158.out)
       have n4_ := aS (below_drew1 HB.out)
       clear HO_5
       clear HO_6
       clear HO_159002
       clear BK158
       clear HB
       have HO_5 := n0_
       have HO_6 := n1_
       have HO_159002 := n2_
       have BK158 := n3_
       have HB := n4_
       clear n0_ n1_ n2_ n3_ n4_
       have p165 : 0 ≤ (x9_1 : Int) := od (by first | (with_reducible assumption) | assumption)
       have q165 : x9_1 < (t162.length : Int) := od (by first | (with_reducible assumption) | assumption)
       obtain ⟨ad165, A165_2, c165_2, e165, hx165_0, hx165_1, hx165_2, hl165_2, hi165_2⟩ := at_T25 (Kd.V_reads' HO_6.out).2.2 x9_1 p165 q165
       cases e165
       obtain ⟨ce165, hce165, hMe165, hcc165⟩ := Kd.V_get HO_6.out z25 x9_1 p165 (by first | exact q165 | exact od (by first | (with_reducible assumption) | assumption) | (have e_ := (Kd.V_reads' HO_6.out).1; omega))
       obtain ⟨ua165_2, uc165_2, rfl, ul165_2, ge165_2⟩ := k25_openF hMe165
       have hv165_2 := hcc165 2 _ rfl
       rw [add_field _ _ 2 (by omega)] at hv165_2
       replace hv165_2 := Option.some.inj (hv165_2.symm.trans hx165_2)
       injection hv165_2 with hva_ hvn_ hvc_
       rw [hva_] at ge165_2
       rw [hvc_] at ul165_2
       have HL165_2 := aS (show Kd.V k99 99 _ w.heap.size _ _ ((rd_T25 t162 x9_1).f2) from Kd.V_mk ul165_2 ge165_2)
       clear hva_ hvn_ hvc_ ge165_2 ul165_2
       clear hcc165 hce165
       have HR165_2 := aS hi165_2
       have HC165_2 := aS hl165_2
       clear hi165_2 hl165_2
       replace p165 := eq_true p165
       replace q165 := eq_true q165
       refine start_ (n := 6) (S := fun w' => w'.cell? ⟨gb158, 0, none⟩ = some (.int .i64 a1_0) ∧ w'.cell? ⟨gb158, 1, none⟩ = some (.string a1_1) ∧ w'.cell? ⟨gb158, 2, none⟩ = some (.slice A1_2 l1_2.length c1_2) ∧ w'.cell? (ad165.add ((x9_1).toNat * 3)) = some (.int .i64 ((rd_T25 t162 x9_1).f0)) ∧ w'.cell? ⟨(ad165.add ((x9_1).toNat * 3)).block, (ad165.add ((x9_1).toNat * 3)).off + 1, none⟩ = some (.string ((rd_T25 t162 x9_1).f1)) ∧ w'.cell? ⟨(ad165.add ((x9_1).toNat * 3)).block, (ad165.add ((x9_1).toNat * 3)).off + 2, none⟩ = some (.slice A165_2 ((rd_T25 t162 x9_1).f2).length c165_2)) (ds := []) #[false, false, false, false, false, false] (by kernel_rfl) rfl rfl ⟨(blk_cell BK158.out 0).trans rfl, (blk_cell BK158.out 1).trans rfl, (blk_cell BK158.out 2).trans rfl, hx165_0, hx165_1, hx165_2⟩ (fun hHeld => ?_)
       generalize wr.drew = w15 at HO_5 HO_6 HO_159002 BK158 HB HL165_2 HR165_2 hx165_0 hx165_1 hx165_2 hHeld ⊢
       refine pure_ (i := 0) (N := some 23) (v := ?_) (a' := ?_) #[true, false, false, false, false, false] rfl rfl (by kernel_rfl) (fun _ _ _ h => h) (Or.inl ⟨by rfl, ?_⟩) ?_ ?_
       rotate_left
       ·intro w'
        go_simp
        with_reducible rfl
       rotate_left
       ·simp only [Act.put, s1, s2, s3, i64_w, i32_w]
        rfl
       refine pure_ (i := 1) (N := some 24) (v := ?_) (a' := ?_) #[true, true, false, false, false, false] rfl rfl (by kernel_rfl) (fun _ _ _ h => h) (Or.inl ⟨by rfl, ?_⟩) ?_ ?_
       rotate_left
       ·intro w'
        go_simp
        with_reducible rfl
       rotate_left
       ·simp only [Act.put, s1, s2, s3, i64_w, i32_w]
        rfl
       refine pure_ (i := 2) (N := some 25) (v := ?_) (a' := ?_) #[true, true, true, false, false, false] rfl rfl (by kernel_rfl) (fun _ _ _ h => h) (Or.inl ⟨by rfl, ?_⟩) ?_ ?_
       rotate_left
       ·intro w'
        go_simp
        with_reducible rfl
       rotate_left
       ·simp only [Act.put, s1, s2, s3, i64_w, i32_w]
        rfl
       refine take_ (i := 3) (N := some 26) (v := ?_) (a' := ?_) #[true, true, true, true, false, false] rfl rfl (by kernel_rfl) (fun _ _ _ h => h) (Or.inl ⟨by rfl, ?_⟩) hHeld ?_ ?_
       rotate_left
       ·rintro w' ⟨s0, s1, s2, s3, s4, s5⟩
        go_simp
        with_reducible rfl
       rotate_left
       ·simp only [Act.put, s1, s2, s3, i64_w, i32_w]
        rfl
       refine take_ (i := 4) (N := some 27) (v := ?_) (a' := ?_) #[true, true, true, true, true, false] rfl rfl (by kernel_rfl) (fun _ _ _ h => h) (Or.inl ⟨by rfl, ?_⟩) hHeld ?_ ?_
       rotate_left
       ·rintro w' ⟨s0, s1, s2, s3, s4, s5⟩
        go_simp
        with_reducible rfl
       rotate_left
       ·simp only [Act.put, s1, s2, s3, i64_w, i32_w]
        rfl
       refine one_ (i := 5) (N := some 28) #[true, true, true, true, true, true] rfl rfl (by kernel_rfl) (by decide) (fun K hK => ?_)
       refine goes_ Try.func53 (by kernel_rfl) rfl #[.agg #[.int .i64 ((rd_T25 t162 x9_1).f0), .string ((rd_T25 t162 x9_1).f1), .slice A165_2 ((rd_T25 t162 x9_1).f2).length c165_2], .agg #[.int .i64 a1_0, .string a1_1, .slice A1_2 l1_2.length c1_2]] (by rfl) rfl rfl (by (try simp only [List.map_toArray, List.map_cons, List.map_nil]); first | done | rfl | (simp only [List.length_drop, List.length_take]; rfl)) ?_
       with_reducible refine (clerestoryref1_ItemsAlike.calls k1 ((rd_T25 t162 x9_1).f0) ((rd_T25 t162 x9_1).f1) _ _ ((rd_T25 t162 x9_1).f2) a1_0 a1_1 _ _ l1_2 true _ ?side1 ?side2 ?side3 ?side4 A8.out).mono ?_
       (case side1 => repeat (first | exact (by repeat (first | (with_reducible exact HR165_2.out) | (with_reducible refine cA ?_ _) | (with_reducible refine cN ?_ _) | (with_reducible refine cD ?_) | exact HR165_2.out)) | (with_reducible refine cA ?_ _) | (with_reducible refine cN ?_ _) | (with_reducible refine cD ?_)))
       (case side2 => exact HC165_2.out)
       (case side3 => repeat (first | exact (Kd.V_reads' HO_159002.out).2.2 | (with_reducible refine cA ?_ _) | (with_reducible refine cN ?_ _) | (with_reducible refine cD ?_)))
       (case side4 => exact (Kd.V_reads' HO_159002.out).2.1)
       rintro e w16 ⟨rfl, hb⟩
       have HS3_ := (hb.cell (World.block_lt_of_cell? _ _ (hHeld.2.2.2.1))).trans (hHeld.2.2.2.1)
       have HS4_ := (hb.cell (World.block_lt_of_cell? _ _ (hHeld.2.2.2.2.1))).trans (hHeld.2.2.2.2.1)
       have HS5_ := (hb.cell (World.block_lt_of_cell? _ _ (hHeld.2.2.2.2.2))).trans (hHeld.2.2.2.2.2)
       refine ⟨_, rfl, ?_⟩
       have n0_ := aS (Kd.V_below (by (with_reducible repeat (first | apply vA | apply vN | apply vD)); exact HO_5.out) hb)
       have n1_ := aS (Kd.V_below (by (with_reducible repeat (first | apply vA | apply vN | apply vD)); exact HO_6.out) hb)
       have n2_ := aS (Kd.V_below (by (with_reducible repeat (first | apply vA | apply vN | apply vD)); exact HO_159002.out) hb)
       have n3_ := aS (Kd.V_below (by (with_reducible repeat (first | apply vA | apply vN | apply vD)); exact HL165_2.out) hb)
       have n4_ := aS (blk_below (g := gb158) (o := .cells #[.int .i64 a1_0, .string a1_1, .slice A1_2 l1_2.length c1_2] 25 (0, 0)) (by (with_reducible repeat (first | refine kN ?_ _ | refine kD ?_ | refine kA ?_ _)); exact BK158.out) hb)
       have n5_ := aS (Kd.C_below (by repeat (first | (with_reducible exact HR165_2.out) | (with_reducible refine cA ?_ _) | (with_reducible refine cN ?_ _) | (with_reducible refine cD ?_) | exact HR165_2.out)) hb)
       have n6_ := aS (below_step (by repeat (first | (with_reducible first | exact HB.out | apply bA | apply bN | apply bD | refine bS ?_ GE158.out) | exact HB.out)) hb)
       clear HO_5
       clear HO_6
       clear HO_159002
       clear HL165_2
       clear BK158
       clear HR165_2
       clear HB
       have HO_5 := n0_
       have HO_6 := n1_
       have HO_159002 := n2_
       have HL165_2 := n3_
       have BK158 := n4_
       have HR165_2 := n5_
       have HB := n6_
       clear n0_ n1_ n2_ n3_ n4_ n5_ n6_
       (try clear hb)
       (try clear hb2)
       (try clear hk)
       (try clear hi)
       refine hK.out _ _ ⟨(blk_cell BK158.out 0).trans rfl, (blk_cell BK158.out 1).trans rfl, (blk_cell BK158.out 2).trans rfl, HS3_, HS4_, HS5_⟩ (fun hHeld => ?_)
       clear hK K
       refine norm_ (a' := ?_) ?_ ?_
       rotate_left
       ·show Act.put _ (some 28) _ = _
        simp only [Act.put, s1, s2, s3, i64_w, i32_w]
        rfl
       refine done_ (by kernel_rfl) ?_
       try go_wp2
       go_roundg k1
       case measure => have := HK1.out; omega
       case rel => exact ⟨(wrap64 (x7_1 + 1)), (x8_1), (wrap64 (x9_1 + 1)), (by first | rfl | (simp; done) | simp [*]), (by first | rfl | (simp; done) | simp [*]), (by first | rfl | (simp; done) | simp [*]), H', ⟨by have := HK1.out; omega⟩, ⟨by (with_reducible repeat (first | apply vA | apply vN | apply vD)); exact HO_5.out⟩, ⟨by (with_reducible repeat (first | apply vA | apply vN | apply vD)); exact HO_6.out⟩, ⟨by (with_reducible repeat (first | apply vA | apply vN | apply vD)); exact HO_159002.out⟩, ⟨by (with_reducible repeat (first | refine kN ?_ _ | refine kD ?_ | refine kA ?_ _)); exact BK158.out⟩, ⟨by repeat (first | (with_reducible first | exact HB.out | apply bA | apply bN | apply bD | refine bS ?_ GE158.out) | exact HB.out)⟩⟩
     ·replace c9 := Bool.eq_false_iff.mpr c9
      subst c9
      have H1 : (clerestoryref1_ActivePush.l0 k1 t159 t162 x7_1 x8_1 (wrap64 (x9_1 + 1)) a1_0 a1_1 l1_2) = some r := by rw [if_neg (show ¬ (false = true) by decide)] at H; exact H
      clear H
      have H := H1
      clear H1
      have H' := aS H
      clear H
      obtain ⟨Ao17, co17, eo17⟩ := Kd.V_slice HO_6.out
      subst eo17
      try go_wp2
      have n0_ := aS (Kd.V_drew HO_5.out)
      have n1_ := aS (Kd.V_drew HO_6.out)
      have n2_ := aS (Kd.V_drew HO_159002.out)
      have n3_ := aS (blk_drew BK158.out)
      have n4_ := aS (below_drew1 HB.out)
      clear HO_5
      clear HO_6
      clear HO_159002
      clear BK158
      clear HB
      have HO_5 := n0_
      have HO_6 := n1_
      have HO_159002 := n2_
      have BK158 := n3_
      have HB := n4_
      clear n0_ n1_ n2_ n3_ n4_
      have p165 : 0 ≤ (x9_1 : Int) := od (by first | (with_reducible assumption) | assumption)
      have q165 : x9_1 < (t162.length : Int) := od (by first | (with_reducible assumption) | assumption)
      obtain ⟨ad165, A165_2, c165_2, e165, hx165_0, hx165_1, hx165_2, hl165_2, hi165_2⟩ := at_T25 (Kd.V_reads' HO_6.out).2.2 x9_1 p165 q165
      cases e165
      obtain ⟨ce165, hce165, hMe165, hcc165⟩ := Kd.V_get HO_6.out z25 x9_1 p165 (by first | exact q165 | exact od (by first | (with_reducible assumption) | assumption) | (have e_ := (Kd.V_reads' HO_6.out).1; omega))
      obtain ⟨ua165_2, uc165_2, rfl, ul165_2, ge165_2⟩ := k25_openF hMe165
      have hv165_2 := hcc165 2 _ rfl
      rw [add_field _ _ 2 (by omega)] at hv165_2
      replace hv165_2 := Option.some.inj (hv165_2.symm.trans hx165_2)
      injection hv165_2 with hva_ hvn_ hvc_
      rw [hva_] at ge165_2
      rw [hvc_] at ul165_2
      have HL165_2 := aS (show Kd.V k99 99 _ w.heap.size _ _ ((rd_T25 t162 x9_1).f2) from Kd.V_mk ul165_2 ge165_2)
      clear hva_ hvn_ hvc_ ge165_2 ul165_2
      clear hcc165 hce165
      have HR165_2 := aS hi165_2
      have HC165_2 := aS hl165_2
      clear hi165_2 hl165_2
      replace p165 := eq_true p165
      replace q165 := eq_true q165
      refine start_ (n := 6) (S := fun w' => w'.cell? ⟨gb158, 0, none⟩ = some (.int .i64 a1_0) ∧ w'.cell? ⟨gb158, 1, none⟩ = some (.string a1_1) ∧ w'.cell? ⟨gb158, 2, none⟩ = some (.slice A1_2 l1_2.length c1_2) ∧ w'.cell? (ad165.add ((x9_1).toNat * 3)) = some (.int .i64 ((rd_T25 t162 x9_1).f0)) ∧ w'.cell? ⟨(ad165.add ((x9_1).toNat * 3)).block, (ad165.add ((x9_1).toNat * 3)).off + 1, none⟩ = some (.string ((rd_T25 t162 x9_1).f1)) ∧ w'.cell? ⟨(ad165.add ((x9_1).toNat * 3)).block, (ad165.add ((x9_1).toNat * 3)).off + 2, none⟩ = some (.slice A165_2 ((rd_T25 t162 x9_1).f2).length c165_2)) (ds := []) #[false, false, false, false, false, false] (by kernel_rfl) rfl rfl ⟨(blk_cell BK158.out 0).trans rfl, (blk_cell BK158.out 1).trans rfl, (blk_cell BK158.out 2).trans rfl, hx165_0, hx165_1, hx165_2⟩ (fun hHeld => ?_)
      generalize wr.drew = w18 at HO_5 HO_6 HO_159002 BK158 HB HL165_2 HR165_2 hx165_0 hx165_1 hx165_2 hHeld ⊢
      refine pure_ (i := 0) (N := some 23) (v := ?_) (a' := ?_) #[true, false, false, false, false, false] rfl rfl (by kernel_rfl) (fun _ _ _ h => h) (Or.inl ⟨by rfl, ?_⟩) ?_ ?_
      rotate_left
      ·intro w'
       go_simp
       with_reducible rfl
      rotate_left
      ·simp only [Act.put, s1, s2, s3, i64_w, i32_w]
       rfl
      refine pure_ (i := 1) (N := some 24) (v := ?_) (a' := ?_) #[true, true, false, false, false, false] rfl rfl (by kernel_rfl) (fun _ _ _ h => h) (Or.inl ⟨by rfl, ?_⟩) ?_ ?_
      rotate_left
      ·intro w'
       go_simp
       with_reducible rfl
      rotate_left
      ·simp only [Act.put, s1, s2, s3, i64_w, i32_w]
       rfl
      refine pure_ (i := 2) (N := some 25) (v := ?_) (a' := ?_) #[true, true, true, false, false, false] rfl rfl (by kernel_rfl) (fun _ _ _ h => h) (Or.inl ⟨by rfl, ?_⟩) ?_ ?_
      rotate_left
      ·intro w'
       go_simp
       with_reducible rfl
      rotate_left
      ·simp only [Act.put, s1, s2, s3, i64_w, i32_w]
       rfl
      refine take_ (i := 3) (N := some 26) (v := ?_) (a' := ?_) #[true, true, true, true, false, false] rfl rfl (by kernel_rfl) (fun _ _ _ h => h) (Or.inl ⟨by rfl, ?_⟩) hHeld ?_ ?_
      rotate_left
      ·rintro w' ⟨s0, s1, s2, s3, s4, s5⟩
       go_simp
       with_reducible rfl
      rotate_left
      ·simp only [Act.put, s1, s2, s3, i64_w, i32_w]
       rfl
      refine take_ (i := 4) (N := some 27) (v := ?_) (a' := ?_) #[true, true, true, true, true, false] rfl rfl (by kernel_rfl) (fun _ _ _ h => h) (Or.inl ⟨by rfl, ?_⟩) hHeld ?_ ?_
      rotate_left
      ·rintro w' ⟨s0, s1, s2, s3, s4, s5⟩
       go_simp
       with_reducible rfl
      rotate_left
      ·simp only [Act.put, s1, s2, s3, i64_w, i32_w]
       rfl
      refine one_ (i := 5) (N := some 28) #[true, true, true, true, true, true] rfl rfl (by kernel_rfl) (by decide) (fun K hK => ?_)
      refine goes_ Try.func53 (by kernel_rfl) rfl #[.agg #[.int .i64 ((rd_T25 t162 x9_1).f0), .string ((rd_T25 t162 x9_1).f1), .slice A165_2 ((rd_T25 t162 x9_1).f2).length c165_2], .agg #[.int .i64 a1_0, .string a1_1, .slice A1_2 l1_2.length c1_2]] (by rfl) rfl rfl (by (try simp only [List.map_toArray, List.map_cons, List.map_nil]); first | done | rfl | (simp only [List.length_drop, List.length_take]; rfl)) ?_
      with_reducible refine (clerestoryref1_ItemsAlike.calls k1 ((rd_T25 t162 x9_1).f0) ((rd_T25 t162 x9_1).f1) _ _ ((rd_T25 t162 x9_1).f2) a1_0 a1_1 _ _ l1_2 false _ ?side1 ?side2 ?side3 ?side4 A8.out).mono ?_
      (case side1 => repeat (first | exact (by repeat (first | (with_reducible exact HR165_2.out) | (with_reducible refine cA ?_ _) | (with_reducible refine cN ?_ _) | (with_reducible refine cD ?_) | exact HR165_2.out)) | (with_reducible refine cA ?_ _) | (with_reducible refine cN ?_ _) | (with_reducible refine cD ?_)))
      (case side2 => exact HC165_2.out)
      (case side3 => repeat (first | exact (Kd.V_reads' HO_159002.out).2.2 | (with_reducible refine cA ?_ _) | (with_reducible refine cN ?_ _) | (with_reducible refine cD ?_)))
      (case side4 => exact (Kd.V_reads' HO_159002.out).2.1)
      rintro e w19 ⟨rfl, hb⟩
      have HS3_ := (hb.cell (World.block_lt_of_cell? _ _ (hHeld.2.2.2.1))).trans (hHeld.2.2.2.1)
      have HS4_ := (hb.cell (World.block_lt_of_cell? _ _ (hHeld.2.2.2.2.1))).trans (hHeld.2.2.2.2.1)
      have HS5_ := (hb.cell (World.block_lt_of_cell? _ _ (hHeld.2.2.2.2.2))).trans (hHeld.2.2.2.2.2)
      refine ⟨_, rfl, ?_⟩
      have n0_ := aS (Kd.V_below (by (with_reducible repeat (first | apply vA | apply vN | apply vD)); exact HO_5.out) hb)
      have n1_ := aS (Kd.V_below (by (with_reducible repeat (first | apply vA | apply vN | apply vD)); exact HO_6.out) hb)
      have n2_ := aS (Kd.V_below (by (with_reducible repeat (first | apply vA | apply vN | apply vD)); exact HO_159002.out) hb)
      have n3_ := aS (Kd.V_below (by (with_reducible repeat (first | apply vA | apply vN | apply vD)); exact HL165_2.out) hb)
      have n4_ := aS (blk_below (g := gb158) (o := .cells #[.int .i64 a1_0, .string a1_1, .slice A1_2 l1_2.length c1_2] 25 (0, 0)) (by (with_reducible repeat (first | refine kN ?_ _ | refine kD ?_ | refine kA ?_ _)); exact BK158.out) hb)
      have n5_ := aS (Kd.C_below (by repeat (first | (with_reducible exact HR165_2.out) | (with_reducible refine cA ?_ _) | (with_reducible refine cN ?_ _) | (with_reducible refine cD ?_) | exact HR165_2.out)) hb)
      have n6_ := aS (below_step (by repeat (first | (with_reducible first | exact HB.out | apply bA | apply bN | apply bD | refine bS ?_ GE158.out) | exact HB.out)) hb)
      clear HO_5
      clear HO_6
      clear HO_159002
      clear HL165_2
      clear BK158
      clear HR165_2
      clear HB
      have HO_5 := n0_
      have HO_6 := n1_
      have HO_159002 := n2_
      have HL165_2 := n3_
      have BK158 := n4_
      have HR165_2 := n5_
      have HB := n6_
      clear n0_ n1_ n2_ n3_ n4_ n5_ n6_
      (try clear hb)
      (try clear hb2)
      (try clear hk)
      (try clear hi)
      refine hK.out _ _ ⟨(blk_cell BK158.out 0).trans rfl, (blk_cell BK158.out 1).trans rfl, (blk_cell BK158.out 2).trans rfl, HS3_, HS4_, HS5_⟩ (fun hHeld => ?_)
      clear hK K
      refine norm_ (a' := ?_) ?_ ?_
      rotate_left
      ·show Act.put _ (some 28) _ = _
       simp only [Act.put, s1, s2, s3, i64_w, i32_w]
       rfl
      refine done_ (by kernel_rfl) ?_
      try go_wp2
      go_roundg k1
      case measure => have := HK1.out; omega
      case rel => exact ⟨(x7_1), (x8_1), (wrap64 (x9_1 + 1)), (by first | rfl | (simp; done) | simp [*]), (by first | rfl | (simp; done) | simp [*]), (by first | rfl | (simp; done) | simp [*]), H', ⟨by have := HK1.out; omega⟩, ⟨by (with_reducible repeat (first | apply vA | apply vN | apply vD)); exact HO_5.out⟩, ⟨by (with_reducible repeat (first | apply vA | apply vN | apply vD)); exact HO_6.out⟩, ⟨by (with_reducible repeat (first | apply vA | apply vN | apply vD)); exact HO_159002.out⟩, ⟨by (with_reducible repeat (first | refine kN ?_ _ | refine kD ?_ | refine kA ?_ _)); exact BK158.out⟩, ⟨by repeat (first | (with_reducible first | exact HB.out | apply bA | apply bN | apply bD | refine bS ?_ GE158.out) | exact HB.out)⟩⟩
    ·rw [if_neg c7] at H
     exact absurd H (by simp)
   ·rw [if_neg c6] at H
    have c6b0 : decide (x9_1 < (t162.length : Int)) = false := decide_eq_false c6
    clear c6
    obtain ⟨y167, hy167⟩ : ∃ y_ : List (S25), y_ = (([] : List (S25))) := ⟨_, rfl⟩
    replace H : (if y167.length + t159.length < 2932031007402 then (clerestoryref1_ActivePush.l1 k1 t162 x7_1 x8_1 (y167 ++ t159) 0 a1_0 a1_1 l1_2) else (none)) = some r := by first | (rw [hy167]; with_reducible exact H) | (have H2_ := (Option.bind_some _ _).symm.trans H; rw [hy167]; with_reducible exact H2_) | (have H2_ := (Option.bind_some _ _).symm.trans H; with_reducible exact H2_) | with_reducible exact H | (rw [hy167]; exact H) | exact H
    have Ny167 := aS hy167
    clear hy167
    by_cases c20 : y167.length + t159.length < 2932031007402
    ·rw [if_pos c20] at H
     have LMc20 := aS c20
     clear c20
     obtain ⟨y170, hy170⟩ : ∃ y_ : List (S25), y_ = (y167 ++ t159) := ⟨_, rfl⟩
     replace H : (clerestoryref1_ActivePush.l1 k1 t162 x7_1 x8_1 y170 0 a1_0 a1_1 l1_2) = some r := by first | (rw [hy170]; with_reducible exact H) | (have H2_ := (Option.bind_some _ _).symm.trans H; rw [hy170]; with_reducible exact H2_) | (have H2_ := (Option.bind_some _ _).symm.trans H; with_reducible exact H2_) | with_reducible exact H | (rw [hy170]; exact H) | exact H
     have Ny170 := aS hy170
     clear hy170
     have H' := aS H
     clear H
     obtain ⟨Ao21, co21, eo21⟩ := Kd.V_slice HO_6.out
     subst eo21
     go_wp2_with (first | ((with_reducible refine gate_dst (N := 34) rfl ?_); refine Kd.N_lit k25 _ 25 ?hg (N' := 34) ?hd (xs := ([] : List (S25))) (inner := []) (ok := (fun k_ => ((P0_ k_ ∨ P1_2_ k_) ∨ w.heap.size ≤ k_) ∧ k_ ≠ gb158)) (okp := (fun k_ => ((P0_ k_ ∨ P1_2_ k_) ∨ w.heap.size ≤ k_) ∧ k_ ≠ gb158)) ?hr ?hp (fun _ hk => hk) ((show ∀ k_, wr.heap.size ≤ k_ → (fun k_ => ((P0_ k_ ∨ P1_2_ k_) ∨ w.heap.size ≤ k_) ∧ k_ ≠ gb158) k_ from fun k_ hk => ⟨(.inr (Nat.le_trans (below_size (by repeat (first | (with_reducible first | exact HB.out | apply bA | apply bN | apply bD | refine bS ?_ GE158.out) | exact HB.out))) hk)), Kd.freshB (g := gb158) (o := .cells #[.int .i64 a1_0, .string a1_1, .slice A1_2 l1_2.length c1_2] 25 (0, 0)) (by (with_reducible repeat (first | refine kN ?_ _ | refine kD ?_ | refine kA ?_ _)); exact BK158.out) k_ hk⟩) _ (by first | exact Nat.le_refl _ | simp)) (Below.refl _ _) (Nat.le_refl _) (by simp) ?_; (case hd => rfl); (case hg => rfl); (case hr => first | (go_simp; done) | (go_simp; rfl)); (case hp => exact (Reps.none _ _)); intro v168 w22 ho23 hb hg_ hnew_; clear hg_ hnew_; (first | rw [← Ny167.out] at ho23 | (simp only [Int.reduceToNat] at ho23; rw [← Ny167.out] at ho23)); have n0_ := aS (Kd.V_elder' (by (with_reducible repeat (first | apply vA | apply vN | apply vD)); exact HO_5.out) (Kd.N_base ho23) hb); have n1_ := aS (Kd.V_elder' (by (with_reducible repeat (first | apply vA | apply vN | apply vD)); exact HO_6.out) (Kd.N_base ho23) hb); have n2_ := aS (Kd.V_elder' (by (with_reducible repeat (first | apply vA | apply vN | apply vD)); exact HO_159002.out) (Kd.N_base ho23) hb); have n3_ := aS (Kd.N_lower ho23 (below_size (by repeat (first | (with_reducible first | exact HB.out | apply bA | apply bN | apply bD | refine bS ?_ GE158.out) | exact HB.out)))); have n4_ := aS (blk_below (g := gb158) (o := .cells #[.int .i64 a1_0, .string a1_1, .slice A1_2 l1_2.length c1_2] 25 (0, 0)) (by (with_reducible repeat (first | refine kN ?_ _ | refine kD ?_ | refine kA ?_ _)); exact BK158.out) hb); have n5_ := aS (below_step (by repeat (first | (with_reducible first | exact HB.out | apply bA | apply bN | apply bD | refine bS ?_ GE158.out) | exact HB.out)) hb); clear HO_5; clear HO_6; clear HO_159002; clear BK158; clear HB; have HO_5 := n0_; have HO_6 := n1_; have HO_159002 := n2_; have HO169 := n3_; have BK158 := n4_; have HB := n5_; clear n0_ n1_ n2_ n3_ n4_ n5_; clear hb ho23; obtain ⟨Ao25, co25, eo25⟩ := Kd.V_slice HO_5.out; subst eo25) | ((with_reducible refine gate_builtin (b := .append) (xs := #[.tmp 34, .tmp 35]) rfl ?_); at_builtin; refine Kd.N_append_rows k25 (w0 := w) w.heap.size rfl (.tmp 34) (.tmp 35) 22 25 (.agg #[(.int .i64 0), (.string ⟨#[]⟩), (.slice none 0 0)]) 48 rfl Try.underlying22 info25 rfl (by decide) (by omega) v168 y167 t159 _ _ _ (fun k_ => ((P0_ k_ ∨ P1_2_ k_) ∨ w.heap.size ≤ k_) ∧ k_ ≠ gb158) (fun k_ => ((fun k_ => ((P0_ k_ ∨ P1_2_ k_) ∨ w.heap.size ≤ k_) ∧ k_ ≠ gb158)) k_ ∧ some k_ ≠ (v168 : Value).ownBlock) rfl rfl ?aO ?aR (fun _ hk => hk) ?aF ?aB ?aS ?aL ?_; (case aR => exact (by skip; exact Kd.V_F (Kd.V_mono (ok' := (fun k_ => ((fun k_ => ((P0_ k_ ∨ P1_2_ k_) ∨ w.heap.size ≤ k_) ∧ k_ ≠ gb158)) k_ ∧ some k_ ≠ (v168 : Value).ownBlock)) (HO_5.out) (fun k_ hk => ⟨⟨hk.1.1, hk.1.2⟩, hk.2⟩)))); (case aB => exact (by repeat (first | (with_reducible first | exact HB.out | apply bA | apply bN | apply bD | refine bS ?_ GE158.out) | exact HB.out))); (case aF => exact (fun k_ hk => ⟨(.inr (Nat.le_trans (below_size (by repeat (first | (with_reducible first | exact HB.out | apply bA | apply bN | apply bD | refine bS ?_ GE158.out) | exact HB.out))) hk)), Kd.freshB (g := gb158) (o := .cells #[.int .i64 a1_0, .string a1_1, .slice A1_2 l1_2.length c1_2] 25 (0, 0)) (by (with_reducible repeat (first | refine kN ?_ _ | refine kD ?_ | refine kA ?_ _)); exact BK158.out) k_ hk⟩)); (case aO => exact (by (with_reducible repeat (first | apply nA | apply nN | apply nD)); exact HO169.out)); (case aS => exact (below_size (by repeat (first | (with_reducible first | exact HB.out | apply bA | apply bN | apply bD | refine bS ?_ GE158.out) | exact HB.out)))); (case aL => have := LMc20.out; omega); intro v171 w24 ho hb hg hat; rw [← Ny170.out] at ho; have n0_ := aS (Kd.V_afterv (ok := (fun k_ => ((P0_ k_ ∨ P1_2_ k_) ∨ w.heap.size ≤ k_) ∧ k_ ≠ gb158)) (by (with_reducible repeat (first | apply vA | apply vN | apply vD)); exact HO_5.out) hg hat); have n1_ := aS (Kd.V_afterv (ok := (fun k_ => ((P0_ k_ ∨ P1_2_ k_) ∨ w.heap.size ≤ k_) ∧ k_ ≠ gb158)) (by (with_reducible repeat (first | apply vA | apply vN | apply vD)); exact HO_6.out) hg hat); have n2_ := aS (Kd.V_afterv (ok := (fun k_ => ((P0_ k_ ∨ P1_2_ k_) ∨ w.heap.size ≤ k_) ∧ k_ ≠ gb158)) (by (with_reducible repeat (first | apply vA | apply vN | apply vD)); exact HO_159002.out) hg hat); have n3_ := aS (blk_grown (g := gb158) (o := .cells #[.int .i64 a1_0, .string a1_1, .slice A1_2 l1_2.length c1_2] 25 (0, 0)) (by (with_reducible repeat (first | refine kN ?_ _ | refine kD ?_ | refine kA ?_ _)); exact BK158.out) hg (Kd.N_away HO169.out (fun _ hk => hk.2))); have n4_ := aS (hb); have n5_ := aS (ho); clear HO_5; clear HO_6; clear HO_159002; clear BK158; clear HB; clear HO169; have HO_5 := n0_; have HO_6 := n1_; have HO_159002 := n2_; have BK158 := n3_; have HB := n4_; have HO172 := n5_; clear n0_ n1_ n2_ n3_ n4_ n5_; clear ho hb hg hat))
     go_loopg [10, 11] k1 (fun kq v10 v11 w' => ∃ (x10_2 : List (S25)) (x11_2 : Int), v11 = .int .i64 x11_2 ∧ Aside0 (clerestoryref1_ActivePush.l1 kq t162 x7_1 x8_1 x10_2 x11_2 a1_0 a1_1 l1_2 = some r) ∧ Aside0 (kq ≤ k1) ∧ Aside0 (Kd.V k25 25 w' w.heap.size (fun k_ => ((P0_ k_ ∨ P1_2_ k_) ∨ w.heap.size ≤ k_) ∧ some k_ ≠ (v10 : Value).ownBlock ∧ k_ ≠ gb158) (.slice Ao21 t162.length co21) t162) ∧ Aside0 (Kd.N k25 25 w' w.heap.size (fun k_ => ((P0_ k_ ∨ P1_2_ k_) ∨ w.heap.size ≤ k_) ∧ k_ ≠ gb158) v10 x10_2) ∧ Aside0 (Kd.V k99 99 w' w.heap.size (fun k_ => ((P0_ k_ ∨ P1_2_ k_) ∨ w.heap.size ≤ k_) ∧ some k_ ≠ (v10 : Value).ownBlock ∧ k_ ≠ gb158) (.slice A1_2 l1_2.length c1_2) l1_2) ∧ Aside0 (w'.heap[gb158]? = some (.cells #[.int .i64 a1_0, .string a1_1, (.slice A1_2 l1_2.length c1_2)] 25 (0, 0))) ∧ Aside0 (Below w.heap.size w w'))
     case atStart => exact ⟨(y170), (0), (by first | rfl | (simp; done) | simp [*]), H', ⟨Nat.le_refl _⟩, ⟨by (with_reducible repeat (first | apply vA | apply vN | apply vD)); exact Kd.V_mono HO_6.out (fun _ hk => ⟨hk.1.1, ⟨hk.2, hk.1.2⟩⟩)⟩, ⟨by (with_reducible repeat (first | apply nA | apply nN | apply nD)); exact HO172.out⟩, ⟨by (with_reducible repeat (first | apply vA | apply vN | apply vD)); exact Kd.V_mono HO_159002.out (fun _ hk => ⟨hk.1.1, ⟨hk.2, hk.1.2⟩⟩)⟩, ⟨by (with_reducible repeat (first | refine kN ?_ _ | refine kD ?_ | refine kA ?_ _)); exact BK158.out⟩, ⟨by repeat (first | (with_reducible first | exact HB.out | apply bA | apply bN | apply bD | refine bS ?_ GE158.out) | exact HB.out)⟩⟩
     case round =>
      clear H'
      try clear c1
      try clear p1
      try clear q1
      try clear hx1
      try clear c2
      try clear p2
      try clear c5
      try clear c6
      try clear c6b0
      try clear p6
      try clear c7
      try clear c7b0
      try clear c9
      try clear c10
      try clear c10b0
      try clear c13
      try clear c16
      try clear p16
      try clear q16
      try clear hx16
      try clear c20
      try clear hx165_0
      try clear hx165_1
      try clear hx165_2
      try clear p165
      try clear p2
      try clear q165
      obtain ⟨x10_2, x11_2, rfl, HA, HK2, HO_6, HO_10, HO_159002, BK158, HB⟩ := hrel
      cases gk with
      | zero => exact absurd HA.out (by simp [clerestoryref1_ActivePush.l1])
      | succ k2 =>
       have H := HA.out
       clear HA
       simp only [clerestoryref1_ActivePush.l1] at H
       by_cases c26 : x11_2 < (t162.length : Int)
       ·rw [if_pos c26] at H
        have c26b0 : decide (x11_2 < (t162.length : Int)) = true := decide_eq_true c26
        clear c26
        by_cases c27 : x7_1 < 3
        ·rw [if_pos c27] at H
         have c27b0 : decide (x7_1 < 3) = true := decide_eq_true c27
         clear c27
         by_cases c28 : 0 ≤ x11_2
         ·rw [if_pos c28] at H
          have c28b0 : decide (0 ≤ x11_2) = true := decide_eq_true c28
          clear c28
          by_cases c29 : x10_2.length < 2932031007402
          ·rw [if_pos c29] at H
           have LMc29 := aS c29
           clear c29
           obtain ⟨y174, hy174⟩ : ∃ y_ : List (S25), y_ = (x10_2 ++ [(⟨(rd_T25 t162 x11_2).f0, (rd_T25 t162 x11_2).f1, (rd_T25 t162 x11_2).f2⟩ : S25)]) := ⟨_, rfl⟩
           replace H : (clerestoryref1_ActivePush.l1 k2 t162 x7_1 x8_1 y174 (wrap64 (x11_2 + 1)) a1_0 a1_1 l1_2) = some r := by first | (rw [hy174]; with_reducible exact H) | (have H2_ := (Option.bind_some _ _).symm.trans H; rw [hy174]; with_reducible exact H2_) | (have H2_ := (Option.bind_some _ _).symm.trans H; with_reducible exact H2_) | with_reducible exact H | (rw [hy174]; exact H) | exact H
           have Ny174 := aS hy174
           clear hy174
           have H' := aS H
           clear H
           have p173 : 0 ≤ (x11_2 : Int) := od (by first | (with_reducible assumption) | assumption)
           have q173 : x11_2 < (t162.length : Int) := od (by first | (with_reducible assumption) | assumption)
           obtain ⟨ad173, A173_2, c173_2, e173, hx173_0, hx173_1, hx173_2, hl173_2, hi173_2⟩ := at_T25 (Kd.V_reads' HO_6.out).2.2 x11_2 p173 q173
           cases e173
           obtain ⟨ce173, hce173, hMe173, hcc173⟩ := Kd.V_get HO_6.out z25 x11_2 p173 (by first | exact q173 | exact od (by first | (with_reducible assumption) | assumption) | (have e_ := (Kd.V_reads' HO_6.out).1; omega))
           obtain ⟨ua173_2, uc173_2, rfl, ul173_2, ge173_2⟩ := k25_openF hMe173
           have hv173_2 := hcc173 2 _ rfl
           rw [add_field _ _ 2 (by omega)] at hv173_2
           replace hv173_2 := Option.some.inj (hv173_2.symm.trans hx173_2)
           injection hv173_2 with hva_ hvn_ hvc_
           rw [hva_] at ge173_2
           rw [hvc_] at ul173_2
           have HL173_2 := aS (show Kd.V k99 99 _ w.heap.size _ _ ((rd_T25 t162 x11_2).f2) from Kd.V_mk ul173_2 ge173_2)
           clear hva_ hvn_ hvc_ ge173_2 ul173_2
           clear hcc173 hce173
           have HR173_2 := aS hi173_2
           have HC173_2 := aS hl173_2
           clear hi173_2 hl173_2
           replace p173 := eq_true p173
           replace q173 := eq_true q173
           go_wp2_with (first | ((with_reducible refine gate_builtin (b := .append) (xs := #[.tmp 55, .tmp 60]) rfl ?_); at_builtin; refine Kd.N_append k25 (w0 := w) w.heap.size rfl (.tmp 55) (.tmp 60) 22 25 (.agg #[(.int .i64 0), (.string ⟨#[]⟩), (.slice none 0 0)]) 48 rfl Try.underlying22 info25 rfl (by decide) (by omega) u10 x10_2 (⟨(rd_T25 t162 x11_2).f0, (rd_T25 t162 x11_2).f1, (rd_T25 t162 x11_2).f2⟩ : S25) [.int .i64 ((rd_T25 t162 x11_2).f0), .string ((rd_T25 t162 x11_2).f1), .slice A173_2 ((rd_T25 t162 x11_2).f2).length c173_2] (fun k_ => ((P0_ k_ ∨ P1_2_ k_) ∨ w.heap.size ≤ k_) ∧ k_ ≠ gb158) (fun k_ => ((fun k_ => ((P0_ k_ ∨ P1_2_ k_) ∨ w.heap.size ≤ k_) ∧ k_ ≠ gb158)) k_ ∧ some k_ ≠ (u10 : Value).ownBlock) rfl rfl ?aP (fun _ hk => hk) ?aF ?aO ?aB ?aS ?aL ?_; (case aP => exact (k25_mkFV _ _ (⟨(rd_T25 t162 x11_2).f0, (rd_T25 t162 x11_2).f1, (rd_T25 t162 x11_2).f2⟩ : S25) (Kd.V_mono (ok' := (fun k_ => ((fun k_ => ((P0_ k_ ∨ P1_2_ k_) ∨ w.heap.size ≤ k_) ∧ k_ ≠ gb158)) k_ ∧ some k_ ≠ (u10 : Value).ownBlock)) (HL173_2.out) (fun k_ hk => ⟨⟨hk.1, hk.2.2⟩, hk.2.1⟩)))); (case aB => exact (by repeat (first | (with_reducible first | exact HB.out | apply bA | apply bN | apply bD | refine bS ?_ GE158.out) | exact HB.out))); (case aF => exact (fun k_ hk => ⟨(.inr (Nat.le_trans (below_size (by repeat (first | (with_reducible first | exact HB.out | apply bA | apply bN | apply bD | refine bS ?_ GE158.out) | exact HB.out))) hk)), Kd.freshB (g := gb158) (o := .cells #[.int .i64 a1_0, .string a1_1, .slice A1_2 l1_2.length c1_2] 25 (0, 0)) (by (with_reducible repeat (first | refine kN ?_ _ | refine kD ?_ | refine kA ?_ _)); exact BK158.out) k_ hk⟩)); (case aO => exact (by (with_reducible repeat (first | apply nA | apply nN | apply nD)); exact HO_10.out)); (case aS => exact (below_size (by repeat (first | (with_reducible first | exact HB.out | apply bA | apply bN | apply bD | refine bS ?_ GE158.out) | exact HB.out)))); (case aL => have := LMc29.out; omega); intro v175 w30 ho hb hg hat; rw [← Ny174.out] at ho; have n0_ := aS (Kd.V_afterv (ok := (fun k_ => ((P0_ k_ ∨ P1_2_ k_) ∨ w.heap.size ≤ k_) ∧ k_ ≠ gb158)) (by (with_reducible repeat (first | apply vA | apply vN | apply vD)); exact Kd.V_mono HO_6.out (fun _ hk => ⟨⟨hk.1, hk.2.2⟩, hk.2.1⟩)) hg hat); have n1_ := aS (Kd.V_afterv (ok := (fun k_ => ((P0_ k_ ∨ P1_2_ k_) ∨ w.heap.size ≤ k_) ∧ k_ ≠ gb158)) (by (with_reducible repeat (first | apply vA | apply vN | apply vD)); exact Kd.V_mono HO_159002.out (fun _ hk => ⟨⟨hk.1, hk.2.2⟩, hk.2.1⟩)) hg hat); have n2_ := aS (blk_grown (g := gb158) (o := .cells #[.int .i64 a1_0, .string a1_1, .slice A1_2 l1_2.length c1_2] 25 (0, 0)) (by (with_reducible repeat (first | refine kN ?_ _ | refine kD ?_ | refine kA ?_ _)); exact BK158.out) hg (Kd.N_away HO_10.out (fun _ hk => hk.2))); have n3_ := aS (Kd.V_afterv (ok := (fun k_ => ((P0_ k_ ∨ P1_2_ k_) ∨ w.heap.size ≤ k_) ∧ k_ ≠ gb158)) (by (with_reducible repeat (first | apply vA | apply vN | apply vD)); exact Kd.V_mono HL173_2.out (fun _ hk => ⟨⟨hk.1, hk.2.2⟩, hk.2.1⟩)) hg hat); have n4_ := aS (hb); have n5_ := aS (ho); clear HO_6; clear HO_159002; clear BK158; clear HL173_2; clear HB; clear HO_10; have HO_6 := n0_; have HO_159002 := n1_; have BK158 := n2_; have HL173_2 := n3_; have HB := n4_; have HO176 := n5_; clear n0_ n1_ n2_ n3_ n4_ n5_; clear ho hb hg hat))
           go_roundg k2
           case measure => have := HK1.out; have := HK2.out; omega
           case rel => exact ⟨(y174), (wrap64 (x11_2 + 1)), (by first | rfl | (simp; done) | simp [*]), H', ⟨by have := HK1.out; have := HK2.out; omega⟩, ⟨by (with_reducible repeat (first | apply vA | apply vN | apply vD)); exact Kd.V_mono HO_6.out (fun _ hk => ⟨hk.1.1, ⟨hk.2, hk.1.2⟩⟩)⟩, ⟨by (with_reducible repeat (first | apply nA | apply nN | apply nD)); exact HO176.out⟩, ⟨by (with_reducible repeat (first | apply vA | apply vN | apply vD)); exact Kd.V_mono HO_159002.out (fun _ hk => ⟨hk.1.1, ⟨hk.2, hk.1.2⟩⟩)⟩, ⟨by (with_reducible repeat (first | refine kN ?_ _ | refine kD ?_ | refine kA ?_ _)); exact BK158.out⟩, ⟨by repeat (first | (with_reducible first | exact HB.out | apply bA | apply bN | apply bD | refine bS ?_ GE158.out) | exact HB.out)⟩⟩
          ·rw [if_neg c29] at H
           exact absurd H (by simp)
         ·rw [if_neg c28] at H
          exact absurd H (by simp)
        ·rw [if_neg c27] at H
         have c27b0 : decide (x7_1 < 3) = false := decide_eq_false c27
         clear c27
         by_cases c31 : x11_2 = x8_1
         ·rw [if_pos c31] at H
          have c31b0 : (x11_2 == x8_1) = true := beq_iff_eq.mpr c31
          have c31b1 : (x11_2 != x8_1) = false := bne_eq_false_iff_eq.mpr c31
          clear c31
          by_cases c32 : a1_0 = (-1)
          ·rw [if_pos c32] at H
           have c32b0 : (a1_0 == (-1)) = true := beq_iff_eq.mpr c32
           have c32b1 : (a1_0 != (-1)) = false := bne_eq_false_iff_eq.mpr c32
           clear c32
           by_cases c33 : 0 ≤ x11_2
           ·rw [if_pos c33] at H
            have c33b0 : decide (0 ≤ x11_2) = true := decide_eq_true c33
            clear c33
            by_cases c34 : x10_2.length < 2932031007402
            ·rw [if_pos c34] at H
             have LMc34 := aS c34
             clear c34
             obtain ⟨y178, hy178⟩ : ∃ y_ : List (S25), y_ = (x10_2 ++ [(⟨(rd_T25 t162 x11_2).f0, (rd_T25 t162 x11_2).f1, (rd_T25 t162 x11_2).f2⟩ : S25)]) := ⟨_, rfl⟩
             replace H : (clerestoryref1_ActivePush.l1 k2 t162 x7_1 x8_1 y178 (wrap64 (x11_2 + 1)) a1_0 a1_1 l1_2) = some r := by first | (rw [hy178]; with_reducible exact H) | (have H2_ := (Option.bind_some _ _).symm.trans H; rw [hy178]; with_reducible exact H2_) | (have H2_ := (Option.bind_some _ _).symm.trans H; with_reducible exact H2_) | with_reducible exact H | (rw [hy178]; exact H) | exact H
             have Ny178 := aS hy178
             clear hy178
             have H' := aS H
             clear H
             have hcz35_0 : wr.cell? ⟨gb158, 0, none⟩ = some (.int .i64 a1_0) := (blk_cell BK158.out 0).trans rfl
             have hcz35_1 : wr.cell? ⟨gb158, 1, none⟩ = some (.string a1_1) := (blk_cell BK158.out 1).trans rfl
             have hcz35_2 : wr.cell? ⟨gb158, 2, none⟩ = some (.slice A1_2 l1_2.length c1_2) := (blk_cell BK158.out 2).trans rfl
             have hfz35_0 := blk_frozen BK158.out 0
             have hfz35_1 := blk_frozen BK158.out 1
             have hfz35_2 := blk_frozen BK158.out 2
             have p177 : 0 ≤ (x11_2 : Int) := od (by first | (with_reducible assumption) | assumption)
             have q177 : x11_2 < (t162.length : Int) := od (by first | (with_reducible assumption) | assumption)
             obtain ⟨ad177, A177_2, c177_2, e177, hx177_0, hx177_1, hx177_2, hl177_2, hi177_2⟩ := at_T25 (Kd.V_reads' HO_6.out).2.2 x11_2 p177 q177
             cases e177
             obtain ⟨ce177, hce177, hMe177, hcc177⟩ := Kd.V_get HO_6.out z25 x11_2 p177 (by first | exact q177 | exact od (by first | (with_reducible assumption) | assumption) | (have e_ := (Kd.V_reads' HO_6.out).1; omega))
             obtain ⟨ua177_2, uc177_2, rfl, ul177_2, ge177_2⟩ := k25_openF hMe177
             have hv177_2 := hcc177 2 _ rfl
             rw [add_field _ _ 2 (by omega)] at hv177_2
             replace hv177_2 := Option.some.inj (hv177_2.symm.trans hx177_2)
             injection hv177_2 with hva_ hvn_ hvc_
             rw [hva_] at ge177_2
             rw [hvc_] at ul177_2
             have HL177_2 := aS (show Kd.V k99 99 _ w.heap.size _ _ ((rd_T25 t162 x11_2).f2) from Kd.V_mk ul177_2 ge177_2)
             clear hva_ hvn_ hvc_ ge177_2 ul177_2
             clear hcc177 hce177
             have HR177_2 := aS hi177_2
             have HC177_2 := aS hl177_2
             clear hi177_2 hl177_2
             replace p177 := eq_true p177
             replace q177 := eq_true q177
             go_wp2_with (first | ((with_reducible refine gate_builtin (b := .append) (xs := #[.tmp 55, .tmp 60]) rfl ?_); at_builtin; refine Kd.N_append k25 (w0 := w) w.heap.size rfl (.tmp 55) (.tmp 60) 22 25 (.agg #[(.int .i64 0), (.string ⟨#[]⟩), (.slice none 0 0)]) 48 rfl Try.underlying22 info25 rfl (by decide) (by omega) u10 x10_2 (⟨(rd_T25 t162 x11_2).f0, (rd_T25 t162 x11_2).f1, (rd_T25 t162 x11_2).f2⟩ : S25) [.int .i64 ((rd_T25 t162 x11_2).f0), .string ((rd_T25 t162 x11_2).f1), .slice A177_2 ((rd_T25 t162 x11_2).f2).length c177_2] (fun k_ => ((P0_ k_ ∨ P1_2_ k_) ∨ w.heap.size ≤ k_) ∧ k_ ≠ gb158) (fun k_ => ((fun k_ => ((P0_ k_ ∨ P1_2_ k_) ∨ w.heap.size ≤ k_) ∧ k_ ≠ gb158)) k_ ∧ some k_ ≠ (u10 : Value).ownBlock) rfl rfl ?aP (fun _ hk => hk) ?aF ?aO ?aB ?aS ?aL ?_; (case aP => exact (k25_mkFV _ _ (⟨(rd_T25 t162 x11_2).f0, (rd_T25 t162 x11_2).f1, (rd_T25 t162 x11_2).f2⟩ : S25) (Kd.V_mono (ok' := (fun k_ => ((fun k_ => ((P0_ k_ ∨ P1_2_ k_) ∨ w.heap.size ≤ k_) ∧ k_ ≠ gb158)) k_ ∧ some k_ ≠ (u10 : Value).ownBlock)) (HL177_2.out) (fun k_ hk => ⟨⟨hk.1, hk.2.2⟩, hk.2.1⟩)))); (case aB => exact (by repeat (first | (with_reducible first | exact HB.out | apply bA | apply bN | apply bD | refine bS ?_ GE158.out) | exact HB.out))); (case aF => exact (fun k_ hk => ⟨(.inr (Nat.le_trans (below_size (by repeat (first | (with_reducible first | exact HB.out | apply bA | apply bN | apply bD | refine bS ?_ GE158.out) | exact HB.out))) hk)), Kd.freshB (g := gb158) (o := .cells #[.int .i64 a1_0, .string a1_1, .slice A1_2 l1_2.length c1_2] 25 (0, 0)) (by (with_reducible repeat (first | refine kN ?_ _ | refine kD ?_ | refine kA ?_ _)); exact BK158.out) k_ hk⟩)); (case aO => exact (by (with_reducible repeat (first | apply nA | apply nN | apply nD)); exact HO_10.out)); (case aS => exact (below_size (by repeat (first | (with_reducible first | exact HB.out | apply bA | apply bN | apply bD | refine bS ?_ GE158.out) | exact HB.out)))); (case aL => have := LMc34.out; omega); intro v179 w36 ho hb hg hat; rw [← Ny178.out] at ho; have n0_ := aS (Kd.V_afterv (ok := (fun k_ => ((P0_ k_ ∨ P1_2_ k_) ∨ w.heap.size ≤ k_) ∧ k_ ≠ gb158)) (by (with_reducible repeat (first | apply vA | apply vN | apply vD)); exact Kd.V_mono HO_6.out (fun _ hk => ⟨⟨hk.1, hk.2.2⟩, hk.2.1⟩)) hg hat); have n1_ := aS (Kd.V_afterv (ok := (fun k_ => ((P0_ k_ ∨ P1_2_ k_) ∨ w.heap.size ≤ k_) ∧ k_ ≠ gb158)) (by (with_reducible repeat (first | apply vA | apply vN | apply vD)); exact Kd.V_mono HO_159002.out (fun _ hk => ⟨⟨hk.1, hk.2.2⟩, hk.2.1⟩)) hg hat); have n2_ := aS (blk_grown (g := gb158) (o := .cells #[.int .i64 a1_0, .string a1_1, .slice A1_2 l1_2.length c1_2] 25 (0, 0)) (by (with_reducible repeat (first | refine kN ?_ _ | refine kD ?_ | refine kA ?_ _)); exact BK158.out) hg (Kd.N_away HO_10.out (fun _ hk => hk.2))); have n3_ := aS (Kd.V_afterv (ok := (fun k_ => ((P0_ k_ ∨ P1_2_ k_) ∨ w.heap.size ≤ k_) ∧ k_ ≠ gb158)) (by (with_reducible repeat (first | apply vA | apply vN | apply vD)); exact Kd.V_mono HL177_2.out (fun _ hk => ⟨⟨hk.1, hk.2.2⟩, hk.2.1⟩)) hg hat); have n4_ := aS (hb); have n5_ := aS (ho); clear HO_6; clear HO_159002; clear BK158; clear HL177_2; clear HB; clear HO_10; have HO_6 := n0_; have HO_159002 := n1_; have BK158 := n2_; have HL177_2 := n3_; have HB := n4_; have HO180 := n5_; clear n0_ n1_ n2_ n3_ n4_ n5_; clear ho hb hg hat))
             go_roundg k2
             case measure => have := HK1.out; have := HK2.out; omega
             case rel => exact ⟨(y178), (wrap64 (x11_2 + 1)), (by first | rfl | (simp; done) | simp [*]), H', ⟨by have := HK1.out; have := HK2.out; omega⟩, ⟨by (with_reducible repeat (first | apply vA | apply vN | apply vD)); exact Kd.V_mono HO_6.out (fun _ hk => ⟨hk.1.1, ⟨hk.2, hk.1.2⟩⟩)⟩, ⟨by (with_reducible repeat (first | apply nA | apply nN | apply nD)); exact HO180.out⟩, ⟨by (with_reducible repeat (first | apply vA | apply vN | apply vD)); exact Kd.V_mono HO_159002.out (fun _ hk => ⟨hk.1.1, ⟨hk.2, hk.1.2⟩⟩)⟩, ⟨by (with_reducible repeat (first | refine kN ?_ _ | refine kD ?_ | refine kA ?_ _)); exact BK158.out⟩, ⟨by repeat (first | (with_reducible first | exact HB.out | apply bA | apply bN | apply bD | refine bS ?_ GE158.out) | exact HB.out)⟩⟩
            ·rw [if_neg c34] at H
             exact absurd H (by simp)
           ·rw [if_neg c33] at H
            exact absurd H (by simp)
          ·rw [if_neg c32] at H
           have c32b0 : (a1_0 == (-1)) = false := beq_eq_false_iff_ne.mpr c32
           have c32b1 : (a1_0 != (-1)) = true := bne_iff_ne.mpr c32
           have H' := aS H
           clear H
           have hcz37_0 : wr.cell? ⟨gb158, 0, none⟩ = some (.int .i64 a1_0) := (blk_cell BK158.out 0).trans rfl
           have hcz37_1 : wr.cell? ⟨gb158, 1, none⟩ = some (.string a1_1) := (blk_cell BK158.out 1).trans rfl
           have hcz37_2 : wr.cell? ⟨gb158, 2, none⟩ = some (.slice A1_2 l1_2.length c1_2) := (blk_cell BK158.out 2).trans rfl
           have hfz37_0 := blk_frozen BK158.out 0
           have hfz37_1 := blk_frozen BK158.out 1
           have hfz37_2 := blk_frozen BK158.out 2
           go_wp2
           go_roundg k2
           case measure => have := HK1.out; have := HK2.out; omega
           case rel => exact ⟨(x10_2), (wrap64 (x11_2 + 1)), (by first | rfl | (simp; done) | simp [*]), H', ⟨by have := HK1.out; have := HK2.out; omega⟩, ⟨by (with_reducible repeat (first | apply vA | apply vN | apply vD)); exact HO_6.out⟩, ⟨by (with_reducible repeat (first | apply nA | apply nN | apply nD)); exact HO_10.out⟩, ⟨by (with_reducible repeat (first | apply vA | apply vN | apply vD)); exact HO_159002.out⟩, ⟨by (with_reducible repeat (first | refine kN ?_ _ | refine kD ?_ | refine kA ?_ _)); exact BK158.out⟩, ⟨by repeat (first | (with_reducible first | exact HB.out | apply bA | apply bN | apply bD | refine bS ?_ GE158.out) | exact HB.out)⟩⟩
         ·rw [if_neg c31] at H
          have c31b0 : (x11_2 == x8_1) = false := beq_eq_false_iff_ne.mpr c31
          have c31b1 : (x11_2 != x8_1) = true := bne_iff_ne.mpr c31
          by_cases c38 : 0 ≤ x11_2
          ·rw [if_pos c38] at H
           have c38b0 : decide (0 ≤ x11_2) = true := decide_eq_true c38
           clear c38
           by_cases c39 : x10_2.length < 2932031007402
           ·rw [if_pos c39] at H
            have LMc39 := aS c39
            clear c39
            obtain ⟨y182, hy182⟩ : ∃ y_ : List (S25), y_ = (x10_2 ++ [(⟨(rd_T25 t162 x11_2).f0, (rd_T25 t162 x11_2).f1, (rd_T25 t162 x11_2).f2⟩ : S25)]) := ⟨_, rfl⟩
            replace H : (clerestoryref1_ActivePush.l1 k2 t162 x7_1 x8_1 y182 (wrap64 (x11_2 + 1)) a1_0 a1_1 l1_2) = some r := by first | (rw [hy182]; with_reducible exact H) | (have H2_ := (Option.bind_some _ _).symm.trans H; rw [hy182]; with_reducible exact H2_) | (have H2_ := (Option.bind_some _ _).symm.trans H; with_reducible exact H2_) | with_reducible exact H | (rw [hy182]; exact H) | exact H
            have Ny182 := aS hy182
            clear hy182
            have H' := aS H
            clear H
            have p181 : 0 ≤ (x11_2 : Int) := od (by first | (with_reducible assumption) | assumption)
            have q181 : x11_2 < (t162.length : Int) := od (by first | (with_reducible assumption) | assumption)
            obtain ⟨ad181, A181_2, c181_2, e181, hx181_0, hx181_1, hx181_2, hl181_2, hi181_2⟩ := at_T25 (Kd.V_reads' HO_6.out).2.2 x11_2 p181 q181
            cases e181
            obtain ⟨ce181, hce181, hMe181, hcc181⟩ := Kd.V_get HO_6.out z25 x11_2 p181 (by first | exact q181 | exact od (by first | (with_reducible assumption) | assumption) | (have e_ := (Kd.V_reads' HO_6.out).1; omega))
            obtain ⟨ua181_2, uc181_2, rfl, ul181_2, ge181_2⟩ := k25_openF hMe181
            have hv181_2 := hcc181 2 _ rfl
            rw [add_field _ _ 2 (by omega)] at hv181_2
            replace hv181_2 := Option.some.inj (hv181_2.symm.trans hx181_2)
            injection hv181_2 with hva_ hvn_ hvc_
            rw [hva_] at ge181_2
            rw [hvc_] at ul181_2
            have HL181_2 := aS (show Kd.V k99 99 _ w.heap.size _ _ ((rd_T25 t162 x11_2).f2) from Kd.V_mk ul181_2 ge181_2)
            clear hva_ hvn_ hvc_ ge181_2 ul181_2
            clear hcc181 hce181
            have HR181_2 := aS hi181_2
            have HC181_2 := aS hl181_2
            clear hi181_2 hl181_2
            replace p181 := eq_true p181
            replace q181 := eq_true q181
            go_wp2_with (first | ((with_reducible refine gate_builtin (b := .append) (xs := #[.tmp 55, .tmp 60]) rfl ?_); at_builtin; refine Kd.N_append k25 (w0 := w) w.heap.size rfl (.tmp 55) (.tmp 60) 22 25 (.agg #[(.int .i64 0), (.string ⟨#[]⟩), (.slice none 0 0)]) 48 rfl Try.underlying22 info25 rfl (by decide) (by omega) u10 x10_2 (⟨(rd_T25 t162 x11_2).f0, (rd_T25 t162 x11_2).f1, (rd_T25 t162 x11_2).f2⟩ : S25) [.int .i64 ((rd_T25 t162 x11_2).f0), .string ((rd_T25 t162 x11_2).f1), .slice A181_2 ((rd_T25 t162 x11_2).f2).length c181_2] (fun k_ => ((P0_ k_ ∨ P1_2_ k_) ∨ w.heap.size ≤ k_) ∧ k_ ≠ gb158) (fun k_ => ((fun k_ => ((P0_ k_ ∨ P1_2_ k_) ∨ w.heap.size ≤ k_) ∧ k_ ≠ gb158)) k_ ∧ some k_ ≠ (u10 : Value).ownBlock) rfl rfl ?aP (fun _ hk => hk) ?aF ?aO ?aB ?aS ?aL ?_; (case aP => exact (k25_mkFV _ _ (⟨(rd_T25 t162 x11_2).f0, (rd_T25 t162 x11_2).f1, (rd_T25 t162 x11_2).f2⟩ : S25) (Kd.V_mono (ok' := (fun k_ => ((fun k_ => ((P0_ k_ ∨ P1_2_ k_) ∨ w.heap.size ≤ k_) ∧ k_ ≠ gb158)) k_ ∧ some k_ ≠ (u10 : Value).ownBlock)) (HL181_2.out) (fun k_ hk => ⟨⟨hk.1, hk.2.2⟩, hk.2.1⟩)))); (case aB => exact (by repeat (first | (with_reducible first | exact HB.out | apply bA | apply bN | apply bD | refine bS ?_ GE158.out) | exact HB.out))); (case aF => exact (fun k_ hk => ⟨(.inr (Nat.le_trans (below_size (by repeat (first | (with_reducible first | exact HB.out | apply bA | apply bN | apply bD | refine bS ?_ GE158.out) | exact HB.out))) hk)), Kd.freshB (g := gb158) (o := .cells #[.int .i64 a1_0, .string a1_1, .slice A1_2 l1_2.length c1_2] 25 (0, 0)) (by (with_reducible repeat (first | refine kN ?_ _ | refine kD ?_ | refine kA ?_ _)); exact BK158.out) k_ hk⟩)); (case aO => exact (by (with_reducible repeat (first | apply nA | apply nN | apply nD)); exact HO_10.out)); (case aS => exact (below_size (by repeat (first | (with_reducible first | exact HB.out | apply bA | apply bN | apply bD | refine bS ?_ GE158.out) | exact HB.out)))); (case aL => have := LMc39.out; omega); intro v183 w40 ho hb hg hat; rw [← Ny182.out] at ho; have n0_ := aS (Kd.V_afterv (ok := (fun k_ => ((P0_ k_ ∨ P1_2_ k_) ∨ w.heap.size ≤ k_) ∧ k_ ≠ gb158)) (by (with_reducible repeat (first | apply vA | apply vN | apply vD)); exact Kd.V_mono HO_6.out (fun _ hk => ⟨⟨hk.1, hk.2.2⟩, hk.2.1⟩)) hg hat); have n1_ := aS (Kd.V_afterv (ok := (fun k_ => ((P0_ k_ ∨ P1_2_ k_) ∨ w.heap.size ≤ k_) ∧ k_ ≠ gb158)) (by (with_reducible repeat (first | apply vA | apply vN | apply vD)); exact Kd.V_mono HO_159002.out (fun _ hk => ⟨⟨hk.1, hk.2.2⟩, hk.2.1⟩)) hg hat); have n2_ := aS (blk_grown (g := gb158) (o := .cells #[.int .i64 a1_0, .string a1_1, .slice A1_2 l1_2.length c1_2] 25 (0, 0)) (by (with_reducible repeat (first | refine kN ?_ _ | refine kD ?_ | refine kA ?_ _)); exact BK158.out) hg (Kd.N_away HO_10.out (fun _ hk => hk.2))); have n3_ := aS (Kd.V_afterv (ok := (fun k_ => ((P0_ k_ ∨ P1_2_ k_) ∨ w.heap.size ≤ k_) ∧ k_ ≠ gb158)) (by (with_reducible repeat (first | apply vA | apply vN | apply vD)); exact Kd.V_mono HL181_2.out (fun _ hk => ⟨⟨hk.1, hk.2.2⟩, hk.2.1⟩)) hg hat); have n4_ := aS (hb); have n5_ := aS (ho); clear HO_6; clear HO_159002; clear BK158; clear HL181_2; clear HB; clear HO_10; have HO_6 := n0_; have HO_159002 := n1_; have BK158 := n2_; have HL181_2 := n3_; have HB := n4_; have HO184 := n5_; clear n0_ n1_ n2_ n3_ n4_ n5_; clear ho hb hg hat))
            go_roundg k2
            case measure => have := HK1.out; have := HK2.out; omega
            case rel => exact ⟨(y182), (wrap64 (x11_2 + 1)), (by first | rfl | (simp; done) | simp [*]), H', ⟨by have := HK1.out; have := HK2.out; omega⟩, ⟨by (with_reducible repeat (first | apply vA | apply vN | apply vD)); exact Kd.V_mono HO_6.out (fun _ hk => ⟨hk.1.1, ⟨hk.2, hk.1.2⟩⟩)⟩, ⟨by (with_reducible repeat (first | apply nA | apply nN | apply nD)); exact HO184.out⟩, ⟨by (with_reducible repeat (first | apply vA | apply vN | apply vD)); exact Kd.V_mono HO_159002.out (fun _ hk => ⟨hk.1.1, ⟨hk.2, hk.1.2⟩⟩)⟩, ⟨by (with_reducible repeat (first | refine kN ?_ _ | refine kD ?_ | refine kA ?_ _)); exact BK158.out⟩, ⟨by repeat (first | (with_reducible first | exact HB.out | apply bA | apply bN | apply bD | refine bS ?_ GE158.out) | exact HB.out)⟩⟩
           ·rw [if_neg c39] at H
            exact absurd H (by simp)
          ·rw [if_neg c38] at H
           exact absurd H (by simp)
       ·rw [if_neg c26] at H
        have c26b0 : decide (x11_2 < (t162.length : Int)) = false := decide_eq_false c26
        clear c26
        by_cases c41 : x10_2.length < 2932031007402
        ·rw [if_pos c41] at H
         have LMc41 := aS c41
         clear c41
         obtain ⟨y185, hy185⟩ : ∃ y_ : List (S25), y_ = (x10_2 ++ [(⟨a1_0, a1_1, l1_2⟩ : S25)]) := ⟨_, rfl⟩
         replace H : (some y185) = some r := by first | (rw [hy185]; with_reducible exact H) | (have H2_ := (Option.bind_some _ _).symm.trans H; rw [hy185]; with_reducible exact H2_) | (have H2_ := (Option.bind_some _ _).symm.trans H; with_reducible exact H2_) | with_reducible exact H | (rw [hy185]; exact H) | exact H
         have Ny185 := aS hy185
         clear hy185
         obtain rfl := Option.some.inj H
         have hcz42_0 : wr.cell? ⟨gb158, 0, none⟩ = some (.int .i64 a1_0) := (blk_cell BK158.out 0).trans rfl
         have hcz42_1 : wr.cell? ⟨gb158, 1, none⟩ = some (.string a1_1) := (blk_cell BK158.out 1).trans rfl
         have hcz42_2 : wr.cell? ⟨gb158, 2, none⟩ = some (.slice A1_2 l1_2.length c1_2) := (blk_cell BK158.out 2).trans rfl
         have hfz42_0 := blk_frozen BK158.out 0
         have hfz42_1 := blk_frozen BK158.out 1
         have hfz42_2 := blk_frozen BK158.out 2
         go_wp2_with (first | ((with_reducible refine gate_builtin (b := .append) (xs := #[.tmp 62, .tmp 64]) rfl ?_); at_builtin; refine Kd.N_append k25 (w0 := w) w.heap.size rfl (.tmp 62) (.tmp 64) 22 25 (.agg #[(.int .i64 0), (.string ⟨#[]⟩), (.slice none 0 0)]) 48 rfl Try.underlying22 info25 rfl (by decide) (by omega) u10 x10_2 (⟨a1_0, a1_1, l1_2⟩ : S25) [.int .i64 a1_0, .string a1_1, .slice A1_2 l1_2.length c1_2] (fun k_ => ((P0_ k_ ∨ P1_2_ k_) ∨ w.heap.size ≤ k_) ∧ k_ ≠ gb158) (fun k_ => ((fun k_ => ((P0_ k_ ∨ P1_2_ k_) ∨ w.heap.size ≤ k_) ∧ k_ ≠ gb158)) k_ ∧ some k_ ≠ (u10 : Value).ownBlock) rfl rfl ?aP (fun _ hk => hk) ?aF ?aO ?aB ?aS ?aL ?_; (case aP => exact (k25_mkFV _ _ (⟨a1_0, a1_1, l1_2⟩ : S25) (Kd.V_mono (ok' := (fun k_ => ((fun k_ => ((P0_ k_ ∨ P1_2_ k_) ∨ w.heap.size ≤ k_) ∧ k_ ≠ gb158)) k_ ∧ some k_ ≠ (u10 : Value).ownBlock)) (HO_159002.out) (fun k_ hk => ⟨⟨hk.1, hk.2.2⟩, hk.2.1⟩)))); (case aB => exact (by repeat (first | (with_reducible first | exact HB.out | apply bA | apply bN | apply bD | refine bS ?_ GE158.out) | exact HB.out))); (case aF => exact (fun k_ hk => ⟨(.inr (Nat.le_trans (below_size (by repeat (first | (with_reducible first | exact HB.out | apply bA | apply bN | apply bD | refine bS ?_ GE158.out) | exact HB.out))) hk)), Kd.freshB (g := gb158) (o := .cells #[.int .i64 a1_0, .string a1_1, .slice A1_2 l1_2.length c1_2] 25 (0, 0)) (by (with_reducible repeat (first | refine kN ?_ _ | refine kD ?_ | refine kA ?_ _)); exact BK158.out) k_ hk⟩)); (case aO => exact (by (with_reducible repeat (first | apply nA | apply nN | apply nD)); exact HO_10.out)); (case aS => exact (below_size (by repeat (first | (with_reducible first | exact HB.out | apply bA | apply bN | apply bD | refine bS ?_ GE158.out) | exact HB.out)))); (case aL => have := LMc41.out; omega); intro v186 w43 ho hb hg hat; rw [← Ny185.out] at ho; have n0_ := aS (Kd.V_afterv (ok := (fun k_ => ((P0_ k_ ∨ P1_2_ k_) ∨ w.heap.size ≤ k_) ∧ k_ ≠ gb158)) (by (with_reducible repeat (first | apply vA | apply vN | apply vD)); exact Kd.V_mono HO_6.out (fun _ hk => ⟨⟨hk.1, hk.2.2⟩, hk.2.1⟩)) hg hat); have n1_ := aS (Kd.V_afterv (ok := (fun k_ => ((P0_ k_ ∨ P1_2_ k_) ∨ w.heap.size ≤ k_) ∧ k_ ≠ gb158)) (by (with_reducible repeat (first | apply vA | apply vN | apply vD)); exact Kd.V_mono HO_159002.out (fun _ hk => ⟨⟨hk.1, hk.2.2⟩, hk.2.1⟩)) hg hat); have n2_ := aS (blk_grown (g := gb158) (o := .cells #[.int .i64 a1_0, .string a1_1, .slice A1_2 l1_2.length c1_2] 25 (0, 0)) (by (with_reducible repeat (first | refine kN ?_ _ | refine kD ?_ | refine kA ?_ _)); exact BK158.out) hg (Kd.N_away HO_10.out (fun _ hk => hk.2))); have n3_ := aS (hb); have n4_ := aS (ho); clear HO_6; clear HO_159002; clear BK158; clear HB; clear HO_10; have HO_6 := n0_; have HO_159002 := n1_; have BK158 := n2_; have HB := n3_; have HO187 := n4_; clear n0_ n1_ n2_ n3_ n4_; clear ho hb hg hat))
         go_ret
         exact ⟨_, by first | rfl | (simp [errW_none, errW_some] <;> rfl) | (simp [*, errW_none, errW_some] <;> rfl), by (with_reducible repeat (first | apply nA | apply nN | apply nD)); exact Kd.N_mono HO187.out (fun _ hk => hk.1), by repeat (first | (with_reducible first | exact HB.out | apply bA | apply bN | apply bD | refine bS ?_ GE158.out) | exact HB.out)⟩
        ·rw [if_neg c41] at H
         exact absurd H (by simp)
    ·rw [if_neg c20] at H
     exact absurd H (by simp)

/-! ### clerestoryref1_ActiveClear: function 14 -/
def clerestoryref1_ActiveClear.f (k : Nat) (l0 : List (S25)) : Option ((List (S25))) := (clerestoryref1_parted.f k l0).bind fun bt188 => (if (bt188.1.length : Int) = 0 then (some ([] : List (S25))) else ((some (([] : List (S25)) : List (S25))).bind fun y194 => (if 0 ≤ (wrap64 ((bt188.1.length : Int) - 1)) then (if (wrap64 ((bt188.1.length : Int) - 1)) ≤ (bt188.1.length : Int) then ((some (bt188.1.take ((wrap64 ((bt188.1.length : Int) - 1)) : Int).toNat : List (S25))).bind fun y197 => (if y194.length + y197.length < 2932031007402 then (some (y194 ++ y197)) else (none))) else (none)) else (none))))
theorem clerestoryref1_ActiveClear.mono : ∀ a0 k, LeO (clerestoryref1_ActiveClear.f k a0) (clerestoryref1_ActiveClear.f (k + 1) a0) := by
 intro a0 k
 unfold clerestoryref1_ActiveClear.f
 repeat' first
  | (with_reducible exact clerestoryref1_parted.mono _ _)
  | (with_reducible exact LeO.refl _)
  | (with_reducible exact LeO.none _)
  | (with_reducible refine LeO.ite ?_ ?_)
  | (with_reducible refine LeO.bind ?_ (fun _ => ?_))
  | exact clerestoryref1_parted.mono _ _
  | exact LeO.none _
  | refine LeO.ite ?_ ?_
  | refine LeO.bind ?_ (fun _ => ?_)
set_option maxHeartbeats 8000000 in
set_option maxRecDepth 100000 in
theorem clerestoryref1_ActiveClear.calls (k : Nat) (P0_ : Nat → Prop) (A0 : Option Addr) (c0 : Nat) (l0 : List (S25)) (r : List (S25)) (w : World) (hs0 : Kd.V k25 25 w w.heap.size (fun k_ => P0_ k_) (.slice A0 l0.length c0) l0) (h : clerestoryref1_ActiveClear.f k l0 = some r) :
 Calls Try.prog 14 #[.slice A0 l0.length c0] w fun e w' => ∃ v0_ : Value, e = .returned (v0_) ∧ Kd.N k25 25 w' w.heap.size (fun k_ => (P0_ k_ ∨ w.heap.size ≤ k_)) v0_ r ∧ Below w.heap.size w w' := by
 have HO0 := aS (show Kd.V k25 25 w w.heap.size (fun k_ => (P0_ k_ ∨ w.heap.size ≤ k_)) (.slice A0 l0.length c0) l0 from Kd.V_mono hs0 (fun k_ hk => .inl hk))
 have HB := aS (Below.refl w.heap.size w)
 have H : ((clerestoryref1_parted.f k l0).bind fun bt188 => (if (bt188.1.length : Int) = 0 then (some ([] : List (S25))) else ((some (([] : List (S25)) : List (S25))).bind fun y194 => (if 0 ≤ (wrap64 ((bt188.1.length : Int) - 1)) then (if (wrap64 ((bt188.1.length : Int) - 1)) ≤ (bt188.1.length : Int) then ((some (bt188.1.take ((wrap64 ((bt188.1.length : Int) - 1)) : Int).toNat : List (S25))).bind fun y197 => (if y194.length + y197.length < 2932031007402 then (some (y194 ++ y197)) else (none))) else (none)) else (none))))) = some r := h
 clear h
 replace H := Option.bind_eq_some_iff.mp H
 obtain ⟨⟨t188, t191⟩, A20, H⟩ := H
 replace H : (if (t188.length : Int) = 0 then (some ([] : List (S25))) else ((some (([] : List (S25)) : List (S25))).bind fun y194 => (if 0 ≤ (wrap64 ((t188.length : Int) - 1)) then (if (wrap64 ((t188.length : Int) - 1)) ≤ (t188.length : Int) then ((some (t188.take ((wrap64 ((t188.length : Int) - 1)) : Int).toNat : List (S25))).bind fun y197 => (if y194.length + y197.length < 2932031007402 then (some (y194 ++ y197)) else (none))) else (none)) else (none)))) = some r := H
 have A2 := aS A20
 clear A20
 by_cases c3 : (t188.length : Int) = 0
 ·rw [if_pos c3] at H
  have c3b0 : ((t188.length : Int) == 0) = true := beq_iff_eq.mpr c3
  have c3b1 : ((t188.length : Int) != 0) = false := bne_eq_false_iff_eq.mpr c3
  clear c3
  obtain rfl := Option.some.inj H
  go_enter Try.func14, Try.ntmps14
  go_wp2_with (first | ((with_reducible refine gate_callee (f := 52) rfl ?_); refine goesL_ (some 7) rfl rfl Try.func52 (by kernel_rfl) rfl #[.slice A0 l0.length c0] rfl (by (try simp only [List.map_toArray, List.map_cons, List.map_nil]); first | done | rfl | (simp only [List.length_drop, List.length_take]; rfl)) ?_; (with_reducible refine (clerestoryref1_parted.calls k (fun k_ => (P0_ k_ ∨ w.heap.size ≤ k_)) _ _ l0 t188 t191 _ ?side1 A2.out).mono ?_); (case side1 => exact HO0.out); rintro e w4 ⟨v189, v192, rfl, ho0, ho1, hb⟩; refine ⟨_, rfl, ?_⟩; have n0_ := aS (Kd.V_below (by (with_reducible repeat (first | apply vA | apply vN | apply vD)); exact HO0.out) hb); have n1_ := aS (Kd.V_lower (Kd.V_mono (ok' := fun k_ => (P0_ k_ ∨ w.heap.size ≤ k_)) ho0 (fun k_ hk_ => Or.elim hk_ (fun hs_ => hs_) (fun hn_ => (.inr (Nat.le_trans (below_size (by repeat (first | (with_reducible first | exact HB.out | apply bA | apply bN | apply bD) | exact HB.out))) hn_))))) (below_size (by repeat (first | (with_reducible first | exact HB.out | apply bA | apply bN | apply bD) | exact HB.out)))); have n2_ := aS (Kd.V_lower (Kd.V_mono (ok' := fun k_ => (P0_ k_ ∨ w.heap.size ≤ k_)) ho1 (fun k_ hk_ => Or.elim hk_ (fun hs_ => hs_) (fun hn_ => (.inr (Nat.le_trans (below_size (by repeat (first | (with_reducible first | exact HB.out | apply bA | apply bN | apply bD) | exact HB.out))) hn_))))) (below_size (by repeat (first | (with_reducible first | exact HB.out | apply bA | apply bN | apply bD) | exact HB.out)))); have n3_ := aS (below_step (by repeat (first | (with_reducible first | exact HB.out | apply bA | apply bN | apply bD) | exact HB.out)) hb); clear HO0; clear HB; have HO0 := n0_; have HO190 := n1_; have HO193 := n2_; have HB := n3_; clear n0_ n1_ n2_ n3_; (try clear hb); (try clear hb2); (try clear hk); (try clear hi); (try clear ho0); (try clear ho1); obtain ⟨Ao5, co5, eo5⟩ := Kd.V_slice HO190.out; subst eo5))
  go_ret
  exact ⟨_, by first | rfl | (simp [errW_none, errW_some] <;> rfl) | (simp [*, errW_none, errW_some] <;> rfl), by first | exact Kd.S_nil _ _ _ _ _ | exact Kd.N_nil _ _ _ _ _ | exact Kd.V_nil _ _ _ _ _ | exact Kd.Q_nil _ _ _ _ _ | exact Kd.R_nil _ _ _ _ _, by repeat (first | (with_reducible first | exact HB.out | apply bA | apply bN | apply bD) | exact HB.out)⟩
 ·rw [if_neg c3] at H
  have c3b0 : ((t188.length : Int) == 0) = false := beq_eq_false_iff_ne.mpr c3
  have c3b1 : ((t188.length : Int) != 0) = true := bne_iff_ne.mpr c3
  have c3b2 : ¬ (t188 = []) := fun h_ => c3 (by rw [h_]; rfl)
  obtain ⟨y194, hy194⟩ : ∃ y_ : List (S25), y_ = (([] : List (S25))) := ⟨_, rfl⟩
  replace H : (if 0 ≤ (wrap64 ((t188.length : Int) - 1)) then (if (wrap64 ((t188.length : Int) - 1)) ≤ (t188.length : Int) then ((some (t188.take ((wrap64 ((t188.length : Int) - 1)) : Int).toNat : List (S25))).bind fun y197 => (if y194.length + y197.length < 2932031007402 then (some (y194 ++ y197)) else (none))) else (none)) else (none)) = some r := by first | (rw [hy194]; with_reducible exact H) | (have H2_ := (Option.bind_some _ _).symm.trans H; rw [hy194]; with_reducible exact H2_) | (have H2_ := (Option.bind_some _ _).symm.trans H; with_reducible exact H2_) | with_reducible exact H | (rw [hy194]; exact H) | exact H
  have Ny194 := aS hy194
  clear hy194
  obtain ⟨ji6, hji6⟩ : ∃ j_ : Int, (wrap64 ((t188.length : Int) - 1)) = j_ := ⟨_, rfl⟩
  replace H : (if 0 ≤ (ji6) then (if (ji6) ≤ (t188.length : Int) then ((some (t188.take ((ji6) : Int).toNat : List (S25))).bind fun y197 => (if y194.length + y197.length < 2932031007402 then (some (y194 ++ y197)) else (none))) else (none)) else (none)) = some r := by first | (rw [hji6] at H; exact H) | (simp only [hji6] at H ⊢; exact H)
  (try rw [hji6] at A2)
  have hji6w : (IntKind.i64.wrap ((t188.length : Int) - 1)) = ji6 := (i64_w _).trans hji6
  by_cases c7 : 0 ≤ (ji6)
  ·rw [if_pos c7] at H
   have c7b0 := eq_true c7
   have c7b1 : decide (0 ≤ (ji6)) = true := decide_eq_true c7
   clear c7
   by_cases c8 : (ji6) ≤ (t188.length : Int)
   ·rw [if_pos c8] at H
    have c8b0 := eq_true c8
    have c8b1 : decide ((ji6) ≤ (t188.length : Int)) = true := decide_eq_true c8
    clear c8
    obtain ⟨y197, hy197⟩ : ∃ y_ : List (S25), y_ = (t188.take ((ji6) : Int).toNat) := ⟨_, rfl⟩
    replace H : (if y194.length + y197.length < 2932031007402 then (some (y194 ++ y197)) else (none)) = some r := by first | (rw [hy197]; with_reducible exact H) | (have H2_ := (Option.bind_some _ _).symm.trans H; rw [hy197]; with_reducible exact H2_) | (have H2_ := (Option.bind_some _ _).symm.trans H; with_reducible exact H2_) | with_reducible exact H | (rw [hy197]; exact H) | exact H
    have Ny197 := aS hy197
    clear hy197
    by_cases c9 : y194.length + y197.length < 2932031007402
    ·rw [if_pos c9] at H
     have LMc9 := aS c9
     clear c9
     obtain ⟨y202, hy202⟩ : ∃ y_ : List (S25), y_ = (y194 ++ y197) := ⟨_, rfl⟩
     replace H : (some y202) = some r := by first | (rw [hy202]; with_reducible exact H) | (have H2_ := (Option.bind_some _ _).symm.trans H; rw [hy202]; with_reducible exact H2_) | (have H2_ := (Option.bind_some _ _).symm.trans H; with_reducible exact H2_) | with_reducible exact H | (rw [hy202]; exact H) | exact H
     have Ny202 := aS hy202
     clear hy202
     obtain rfl := Option.some.inj H
     go_enter Try.func14, Try.ntmps14
     go_wp2_with (first | ((with_reducible refine gate_callee (f := 52) rfl ?_); refine goesL_ (some 7) rfl rfl Try.func52 (by kernel_rfl) rfl #[.slice A0 l0.length c0] rfl (by (try simp only [List.map_toArray, List.map_cons, List.map_nil]); first | done | rfl | (simp only [List.length_drop, List.length_take]; rfl)) ?_; (with_reducible refine (clerestoryref1_parted.calls k (fun k_ => (P0_ k_ ∨ w.heap.size ≤ k_)) _ _ l0 t188 t191 _ ?side1 A2.out).mono ?_); (case side1 => exact HO0.out); rintro e w10 ⟨v189, v192, rfl, ho0, ho1, hb⟩; refine ⟨_, rfl, ?_⟩; have n0_ := aS (Kd.V_below (by (with_reducible repeat (first | apply vA | apply vN | apply vD)); exact HO0.out) hb); have n1_ := aS (Kd.V_lower (Kd.V_mono (ok' := fun k_ => (P0_ k_ ∨ w.heap.size ≤ k_)) ho0 (fun k_ hk_ => Or.elim hk_ (fun hs_ => hs_) (fun hn_ => (.inr (Nat.le_trans (below_size (by repeat (first | (with_reducible first | exact HB.out | apply bA | apply bN | apply bD) | exact HB.out))) hn_))))) (below_size (by repeat (first | (with_reducible first | exact HB.out | apply bA | apply bN | apply bD) | exact HB.out)))); have n2_ := aS (Kd.V_lower (Kd.V_mono (ok' := fun k_ => (P0_ k_ ∨ w.heap.size ≤ k_)) ho1 (fun k_ hk_ => Or.elim hk_ (fun hs_ => hs_) (fun hn_ => (.inr (Nat.le_trans (below_size (by repeat (first | (with_reducible first | exact HB.out | apply bA | apply bN | apply bD) | exact HB.out))) hn_))))) (below_size (by repeat (first | (with_reducible first | exact HB.out | apply bA | apply bN | apply bD) | exact HB.out)))); have n3_ := aS (below_step (by repeat (first | (with_reducible first | exact HB.out | apply bA | apply bN | apply bD) | exact HB.out)) hb); clear HO0; clear HB; have HO0 := n0_; have HO190 := n1_; have HO193 := n2_; have HB := n3_; clear n0_ n1_ n2_ n3_; (try clear hb); (try clear hb2); (try clear hk); (try clear hi); (try clear ho0); (try clear ho1); obtain ⟨Ao11, co11, eo11⟩ := Kd.V_slice HO190.out; subst eo11) | ((with_reducible refine gate_dst (N := 13) rfl ?_); refine Kd.N_lit k25 _ 25 ?hg (N' := 13) ?hd (xs := ([] : List (S25))) (inner := []) (ok := (fun k_ => (P0_ k_ ∨ w.heap.size ≤ k_))) (okp := (fun k_ => (P0_ k_ ∨ w.heap.size ≤ k_))) ?hr ?hp (fun _ hk => hk) ((show ∀ k_, w10.heap.size ≤ k_ → (fun k_ => (P0_ k_ ∨ w.heap.size ≤ k_)) k_ from fun k_ hk => (.inr (Nat.le_trans (below_size (by repeat (first | (with_reducible first | exact HB.out | apply bA | apply bN | apply bD) | exact HB.out))) hk))) _ (by first | exact Nat.le_refl _ | simp)) (Below.refl _ _) (Nat.le_refl _) (by simp) ?_; (case hd => rfl); (case hg => rfl); (case hr => first | (go_simp; done) | (go_simp; rfl)); (case hp => exact (Reps.none _ _)); intro v195 w12 ho13 hb hg_ hnew_; clear hg_ hnew_; (first | rw [← Ny194.out] at ho13 | (simp only [Int.reduceToNat] at ho13; rw [← Ny194.out] at ho13)); have n0_ := aS (Kd.V_elder' (by (with_reducible repeat (first | apply vA | apply vN | apply vD)); exact HO0.out) (Kd.N_base ho13) hb); have n1_ := aS (Kd.V_elder' (by (with_reducible repeat (first | apply vA | apply vN | apply vD)); exact HO190.out) (Kd.N_base ho13) hb); have n2_ := aS (Kd.V_elder' (by (with_reducible repeat (first | apply vA | apply vN | apply vD)); exact HO193.out) (Kd.N_base ho13) hb); have n3_ := aS (Kd.N_lower ho13 (below_size (by repeat (first | (with_reducible first | exact HB.out | apply bA | apply bN | apply bD) | exact HB.out)))); have n4_ := aS (below_step (by repeat (first | (with_reducible first | exact HB.out | apply bA | apply bN | apply bD) | exact HB.out)) hb); clear HO0; clear HO190; clear HO193; clear HB; have HO0 := n0_; have HO190 := n1_; have HO193 := n2_; have HO196 := n3_; have HB := n4_; clear n0_ n1_ n2_ n3_ n4_; clear hb ho13; have q14 : ((ji6) : Int) ≤ ((t188.length : Int) : Int) := od (by first | (with_reducible assumption) | assumption); obtain ⟨i014, hi014, _, hsz14, _⟩ := info_parts info25; have hroom14 : t188.length ≤ co11 := (Kd.V_reads' HO190.out).2.1; have hC14 : Kd.F k25 _ _ Ao11 t188.length t188 := (Kd.V_at (base := w.heap.size) HO190.out).2.2; have hcut14 := cut_to (P := Try.prog) 22 25 .i64 Try.underlying22 hi014 Ao11 t188.length co11 (ji6) (od (by first | (with_reducible assumption) | assumption)) q14 hroom14; have hr14 := Kd.F_take (m := ((ji6) : Int).toNat) hC14 (by omega); have hy14 : y197.length = ((ji6) : Int).toNat := (by rw [Ny197.out, List.length_take]; omega); rw [← Ny197.out] at hr14; rw [← hy14] at hcut14; have HO201 := aS (show Kd.V k25 25 _ w.heap.size _ (.slice Ao11 y197.length co11) y197 from Kd.V_mk (by omega) hr14); have HC201 := aS (show y197.length ≤ co11 from by omega); clear hr14 hC14 hroom14 hi014 hsz14; have KY14 := aS hy14; clear hy14; replace q14 := eq_true q14) | ((with_reducible refine gate_builtin (b := .append) (xs := #[.tmp 13, .tmp 18]) rfl ?_); at_builtin; refine Kd.N_append_rows k25 (w0 := w) w.heap.size rfl (.tmp 13) (.tmp 18) 22 25 (.agg #[(.int .i64 0), (.string ⟨#[]⟩), (.slice none 0 0)]) 48 rfl Try.underlying22 info25 rfl (by decide) (by omega) v195 y194 y197 _ _ _ (fun k_ => (P0_ k_ ∨ w.heap.size ≤ k_)) (fun k_ => ((fun k_ => (P0_ k_ ∨ w.heap.size ≤ k_))) k_ ∧ some k_ ≠ (v195 : Value).ownBlock) rfl rfl ?aO ?aR (fun _ hk => hk) ?aF ?aB ?aS ?aL ?_; (case aR => exact (by skip; exact Kd.V_F (Kd.V_mono (ok' := (fun k_ => ((fun k_ => (P0_ k_ ∨ w.heap.size ≤ k_))) k_ ∧ some k_ ≠ (v195 : Value).ownBlock)) (HO201.out) (fun k_ hk => ⟨hk.1, hk.2⟩)))); (case aB => exact (by repeat (first | (with_reducible first | exact HB.out | apply bA | apply bN | apply bD) | exact HB.out))); (case aF => exact (fun k_ hk => (.inr (Nat.le_trans (below_size (by repeat (first | (with_reducible first | exact HB.out | apply bA | apply bN | apply bD) | exact HB.out))) hk)))); (case aO => exact (by (with_reducible repeat (first | apply nA | apply nN | apply nD)); exact HO196.out)); (case aS => exact (below_size (by repeat (first | (with_reducible first | exact HB.out | apply bA | apply bN | apply bD) | exact HB.out)))); (case aL => have := LMc9.out; omega); intro v203 w15 ho hb hg hat; rw [← Ny202.out] at ho; have n0_ := aS (Kd.V_afterv (ok := (fun k_ => (P0_ k_ ∨ w.heap.size ≤ k_))) (by (with_reducible repeat (first | apply vA | apply vN | apply vD)); exact HO0.out) hg hat); have n1_ := aS (Kd.V_afterv (ok := (fun k_ => (P0_ k_ ∨ w.heap.size ≤ k_))) (by (with_reducible repeat (first | apply vA | apply vN | apply vD)); exact HO190.out) hg hat); have n2_ := aS (Kd.V_afterv (ok := (fun k_ => (P0_ k_ ∨ w.heap.size ≤ k_))) (by (with_reducible repeat (first | apply vA | apply vN | apply vD)); exact HO193.out) hg hat); have n3_ := aS (Kd.V_afterv (ok := (fun k_ => (P0_ k_ ∨ w.heap.size ≤ k_))) (by (with_reducible repeat (first | apply vA | apply vN | apply vD)); exact HO201.out) hg hat); have n4_ := aS (hb); have n5_ := aS (ho); clear HO0; clear HO190; clear HO193; clear HO201; clear HB; clear HO196; have HO0 := n0_; have HO190 := n1_; have HO193 := n2_; have HO201 := n3_; have HB := n4_; have HO204 := n5_; clear n0_ n1_ n2_ n3_ n4_ n5_; clear ho hb hg hat))
     go_ret
     exact ⟨_, by first | rfl | (simp [errW_none, errW_some] <;> rfl) | (simp only [← hji6]; first | rfl | (simp [errW_none, errW_some] <;> rfl)) | (simp [*, errW_none, errW_some] <;> rfl), by (with_reducible repeat (first | apply nA | apply nN | apply nD)); exact HO204.out, by repeat (first | (with_reducible first | exact HB.out | apply bA | apply bN | apply bD) | exact HB.out)⟩
    ·rw [if_neg c9] at H
     exact absurd H (by simp)
   ·rw [if_neg c8] at H
    exact absurd H (by simp)
  ·rw [if_neg c7] at H
   exact absurd H (by simp)

end Go.Proofs.Ythecjfkafpndoaa.XAc
