/- Written by this session's program (wip/xp) out of the translation as Lean prints it: for each Go function a Lean function and the proof that the code answers just so, on the conditions named in each statement. -/
import Derived.Test.YthecjfkafpndoaaXAc0
import Derived.Test.YthecjfkafpndoaaXAc2
import Derived.Test.YthecjfkafpndoaaXAc4
namespace Go.Proofs.Ythecjfkafpndoaa.XAc
open Go.Proofs.Ythecjfkafpndoaa.Short Go.RowKit Go.Proofs.YthecjfkafpndoaaW.PrintWords Go.Proofs.YthecjfkafpndoaaW.PrintLast Go.Proofs.YthecjfkafpndoaaW.PrintMore
attribute [local go_sem] max2_int min2_int max_two min_two max_three min_three max_four min_four   -- for this text's walks alone
set_option linter.unusedVariables false
set_option linter.unusedSimpArgs false

/-! ### active_Found: function 66 -/
def active_Found.l0 : Nat → List (S25) → ByteArray → Int → Option (Int)
 | 0, _, _, _ => none
 | k + 1, x0, x1, x5 => (active_Last.f k x0).bind fun t287 => (if x5 ≥ t287 then (if 0 ≤ x5 then (if x5 < (x0.length : Int) then (if ((rd_T25 x0 x5).f1).toList = x1.toList then (some x5) else (active_Found.l0 k x0 x1 (wrap64 (x5 - 1)))) else (none)) else (none)) else (some (-1)))
def active_Found.f (k : Nat) (l0 : List (S25)) (a1 : ByteArray) : Option (Int) := active_Found.l0 k l0 a1 (wrap64 ((l0.length : Int) - 1))
theorem active_Found.mono_l : ∀ k, (∀ y0 y1 y2, LeO (active_Found.l0 k y0 y1 y2) (active_Found.l0 (k + 1) y0 y1 y2))
 | 0 => fun _ _ _ r h => by simp [active_Found.l0] at h
 | k + 1 => by
  have ih0 := active_Found.mono_l k
  ·intro y0 y1 y2
   unfold active_Found.l0
   repeat' first
   | (with_reducible exact ih0 _ _ _)
   | (with_reducible exact active_Last.mono _ _)
   | (with_reducible exact LeO.refl _)
   | (with_reducible exact LeO.none _)
   | (with_reducible refine LeO.ite ?_ ?_)
   | (with_reducible refine LeO.bind ?_ (fun _ => ?_))
   | exact ih0 _ _ _
   | exact active_Last.mono _ _
   | exact LeO.none _
   | refine LeO.ite ?_ ?_
   | refine LeO.bind ?_ (fun _ => ?_)
theorem active_Found.mono : ∀ a0 a1 k, LeO (active_Found.f k a0 a1) (active_Found.f (k + 1) a0 a1) := by
 intro a0 a1 k
 have ih0 := active_Found.mono_l k
 unfold active_Found.f
 repeat' first
  | (with_reducible exact ih0 _ _ _)
  | (with_reducible exact active_Last.mono _ _)
  | (with_reducible exact LeO.refl _)
  | (with_reducible exact LeO.none _)
  | (with_reducible refine LeO.ite ?_ ?_)
  | (with_reducible refine LeO.bind ?_ (fun _ => ?_))
  | exact ih0 _ _ _
  | exact active_Last.mono _ _
  | exact LeO.none _
  | refine LeO.ite ?_ ?_
  | refine LeO.bind ?_ (fun _ => ?_)
set_option maxHeartbeats 8000000 in
set_option maxRecDepth 100000 in
theorem active_Found.calls (k : Nat) (A0 : Option Addr) (c0 : Nat) (l0 : List (S25)) (a1 : ByteArray) (r : Int) (w : World) (hr0 : Kd.C k25 w A0 l0.length l0) (hc0 : l0.length ≤ c0) (h : active_Found.f k l0 a1 = some r) :
 Calls Try.prog 66 #[.slice A0 l0.length c0, .string a1] w fun e w' => e = .returned (.int .i64 r) ∧ Below w.heap.size w w' := by
 have HR0 := aS hr0
 have HC0 := aS hc0
 clear hr0 hc0
 have HB := aS (Below.refl w.heap.size w)
 have H : (active_Found.l0 k l0 a1 (wrap64 ((l0.length : Int) - 1))) = some r := h
 clear h
 have H' := aS H
 clear H
 go_enter Try.func66, Try.ntmps66
 go_wp2
 go_loopg [5] k (fun kq v5 w' => ∃ (x5_1 : Int), v5 = .int .i64 x5_1 ∧ Aside0 (active_Found.l0 kq l0 a1 x5_1 = some r) ∧ Aside0 (kq ≤ k) ∧ Aside0 (Below w.heap.size w w'))
 case atStart => exact ⟨(wrap64 ((l0.length : Int) - 1)), (by first | rfl | (simp; done) | simp [*]), H', ⟨Nat.le_refl _⟩, ⟨by repeat (first | (with_reducible first | exact HB.out | apply bA | apply bN | apply bD) | exact HB.out)⟩⟩
 case round =>
  clear H'
  try clear p2
  obtain ⟨x5_1, rfl, HA, HK1, HB⟩ := hrel
  cases gk with
  | zero => exact absurd HA.out (by simp [active_Found.l0])
  | succ k1 =>
   have H := HA.out
   clear HA
   simp only [active_Found.l0] at H
   replace H := Option.bind_eq_some_iff.mp H
   obtain ⟨t287, A30, H⟩ := H
   replace H : (if x5_1 ≥ t287 then (if 0 ≤ x5_1 then (if x5_1 < (l0.length : Int) then (if ((rd_T25 l0 x5_1).f1).toList = a1.toList then (some x5_1) else (active_Found.l0 k1 l0 a1 (wrap64 (x5_1 - 1)))) else (none)) else (none)) else (some (-1))) = some r := H
   have A3 := aS A30
   clear A30
   by_cases c4 : x5_1 ≥ t287
   ·rw [if_pos c4] at H
    have c4b0 : decide (t287 ≤ x5_1) = true := decide_eq_true c4
    clear c4
    by_cases c5 : 0 ≤ x5_1
    ·rw [if_pos c5] at H
     have c5b0 : decide (0 ≤ x5_1) = true := decide_eq_true c5
     clear c5
     by_cases c6 : x5_1 < (l0.length : Int)
     ·rw [if_pos c6] at H
      have c6b0 : decide (x5_1 < (l0.length : Int)) = true := decide_eq_true c6
      clear c6
      by_cases c7 : ((rd_T25 l0 x5_1).f1).toList = a1.toList
      ·rw [if_pos c7] at H
       have c7b0 : (((rd_T25 l0 x5_1).f1).toList == a1.toList) = true := beq_iff_eq.mpr c7
       have c7b1 : (((rd_T25 l0 x5_1).f1).toList != a1.toList) = false := bne_eq_false_iff_eq.mpr c7
       clear c7
       obtain rfl := Option.some.inj H
       go_wp2_with (first | ((with_reducible refine gate_callee (f := 86) rfl ?_); refine goesL_ (some 11) rfl rfl Try.func86 (by kernel_rfl) rfl #[.slice A0 l0.length c0] rfl (by (try simp only [List.map_toArray, List.map_cons, List.map_nil]); first | done | rfl | (simp only [List.length_drop, List.length_take]; rfl)) ?_; (with_reducible refine (active_Last.calls k1 _ _ l0 t287 _ ?side1 ?side2 A3.out).mono ?_); (case side1 => repeat (first | exact (Kd.C_below HR0.out HB.out) | (with_reducible refine cA ?_ _) | (with_reducible refine cN ?_ _) | (with_reducible refine cD ?_))); (case side2 => exact HC0.out); rintro e w8 ⟨rfl, hb⟩; refine ⟨_, rfl, ?_⟩; have n0_ := aS (below_step (by repeat (first | (with_reducible first | exact HB.out | apply bA | apply bN | apply bD) | exact HB.out)) hb); clear HB; have HB := n0_; clear n0_; (try clear hb); (try clear hb2); (try clear hk); (try clear hi); have p288 : 0 ≤ (x5_1 : Int) := od (by first | (with_reducible assumption) | assumption); have q288 : x5_1 < (l0.length : Int) := od (by first | (with_reducible assumption) | assumption); obtain ⟨ad288, A288_2, c288_2, e288, hx288_0, hx288_1, hx288_2, hl288_2, hi288_2⟩ := at_T25 HR0.out x5_1 p288 q288; cases e288; replace hx288_0 := (HB.out.cell (World.block_lt_of_cell? w _ hx288_0)).trans hx288_0; replace hx288_1 := (HB.out.cell (World.block_lt_of_cell? w _ hx288_1)).trans hx288_1; replace hx288_2 := (HB.out.cell (World.block_lt_of_cell? w _ hx288_2)).trans hx288_2; have HR288_2 := aS hi288_2; have HC288_2 := aS hl288_2; clear hi288_2 hl288_2; replace p288 := eq_true p288; replace q288 := eq_true q288))
       go_ret
       exact ⟨by first | rfl | (simp [errW_none, errW_some] <;> rfl) | (simp [*, errW_none, errW_some] <;> rfl), by repeat (first | (with_reducible first | exact HB.out | apply bA | apply bN | apply bD) | exact HB.out)⟩
      ·rw [if_neg c7] at H
       have c7b0 : (((rd_T25 l0 x5_1).f1).toList == a1.toList) = false := beq_eq_false_iff_ne.mpr c7
       have c7b1 : (((rd_T25 l0 x5_1).f1).toList != a1.toList) = true := bne_iff_ne.mpr c7
       have H' := aS H
       clear H
       go_wp2_with (first | ((with_reducible refine gate_callee (f := 86) rfl ?_); refine goesL_ (some 11) rfl rfl Try.func86 (by kernel_rfl) rfl #[.slice A0 l0.length c0] rfl (by (try simp only [List.map_toArray, List.map_cons, List.map_nil]); first | done | rfl | (simp only [List.length_drop, List.length_take]; rfl)) ?_; (with_reducible refine (active_Last.calls k1 _ _ l0 t287 _ ?side1 ?side2 A3.out).mono ?_); (case side1 => repeat (first | exact (Kd.C_below HR0.out HB.out) | (with_reducible refine cA ?_ _) | (with_reducible refine cN ?_ _) | (with_reducible refine cD ?_))); (case side2 => exact HC0.out); rintro e w9 ⟨rfl, hb⟩; refine ⟨_, rfl, ?_⟩; have n0_ := aS (below_step (by repeat (first | (with_reducible first | exact HB.out | apply bA | apply bN | apply bD) | exact HB.out)) hb); clear HB; have HB := n0_; clear n0_; (try clear hb); (try clear hb2); (try clear hk); (try clear hi); have p288 : 0 ≤ (x5_1 : Int) := od (by first | (with_reducible assumption) | assumption); have q288 : x5_1 < (l0.length : Int) := od (by first | (with_reducible assumption) | assumption); obtain ⟨ad288, A288_2, c288_2, e288, hx288_0, hx288_1, hx288_2, hl288_2, hi288_2⟩ := at_T25 HR0.out x5_1 p288 q288; cases e288; replace hx288_0 := (HB.out.cell (World.block_lt_of_cell? w _ hx288_0)).trans hx288_0; replace hx288_1 := (HB.out.cell (World.block_lt_of_cell? w _ hx288_1)).trans hx288_1; replace hx288_2 := (HB.out.cell (World.block_lt_of_cell? w _ hx288_2)).trans hx288_2; have HR288_2 := aS hi288_2; have HC288_2 := aS hl288_2; clear hi288_2 hl288_2; replace p288 := eq_true p288; replace q288 := eq_true q288))
       go_roundg k1
       case measure => have := HK1.out; omega
       case rel => exact ⟨(wrap64 (x5_1 - 1)), (by first | rfl | (simp; done) | simp [*]), H', ⟨by have := HK1.out; omega⟩, ⟨by repeat (first | (with_reducible first | exact HB.out | apply bA | apply bN | apply bD) | exact HB.out)⟩⟩
     ·rw [if_neg c6] at H
      exact absurd H (by simp)
    ·rw [if_neg c5] at H
     exact absurd H (by simp)
   ·rw [if_neg c4] at H
    have c4b0 : decide (t287 ≤ x5_1) = false := decide_eq_false c4
    clear c4
    obtain rfl := Option.some.inj H
    go_wp2_with (first | ((with_reducible refine gate_callee (f := 86) rfl ?_); refine goesL_ (some 11) rfl rfl Try.func86 (by kernel_rfl) rfl #[.slice A0 l0.length c0] rfl (by (try simp only [List.map_toArray, List.map_cons, List.map_nil]); first | done | rfl | (simp only [List.length_drop, List.length_take]; rfl)) ?_; (with_reducible refine (active_Last.calls k1 _ _ l0 t287 _ ?side1 ?side2 A3.out).mono ?_); (case side1 => repeat (first | exact (Kd.C_below HR0.out HB.out) | (with_reducible refine cA ?_ _) | (with_reducible refine cN ?_ _) | (with_reducible refine cD ?_))); (case side2 => exact HC0.out); rintro e w10 ⟨rfl, hb⟩; refine ⟨_, rfl, ?_⟩; have n0_ := aS (below_step (by repeat (first | (with_reducible first | exact HB.out | apply bA | apply bN | apply bD) | exact HB.out)) hb); clear HB; have HB := n0_; clear n0_; (try clear hb); (try clear hb2); (try clear hk); (try clear hi)))
    go_ret
    exact ⟨by first | rfl | (simp [errW_none, errW_some] <;> rfl) | (simp [*, errW_none, errW_some] <;> rfl), by repeat (first | (with_reducible first | exact HB.out | apply bA | apply bN | apply bD) | exact HB.out)⟩

/-! ### active_Find: function 22 -/
def active_Find.f (k : Nat) (l0 : List (S25)) (a1 : ByteArray) : Option (Int × Bool × Int) := (active_Check.f l0).bind fun t289 => (if t289 = 0 then ((active_Found.f k l0 a1).bind fun t290 => (some (mx t290 0, decide (t290 ≥ 0), 0))) else (some (0, false, t289)))
theorem active_Find.mono : ∀ a0 a1 k, LeO (active_Find.f k a0 a1) (active_Find.f (k + 1) a0 a1) := by
 intro a0 a1 k
 unfold active_Find.f
 repeat' first
  | (with_reducible exact active_Found.mono _ _ _)
  | (with_reducible exact LeO.refl _)
  | (with_reducible exact LeO.none _)
  | (with_reducible refine LeO.ite ?_ ?_)
  | (with_reducible refine LeO.bind ?_ (fun _ => ?_))
  | exact active_Found.mono _ _ _
  | exact LeO.none _
  | refine LeO.ite ?_ ?_
  | refine LeO.bind ?_ (fun _ => ?_)
set_option maxHeartbeats 8000000 in
set_option maxRecDepth 100000 in
theorem active_Find.calls (k : Nat) (A0 : Option Addr) (c0 : Nat) (l0 : List (S25)) (a1 : ByteArray) (r1 : Int) (r2 : Bool) (r3 : Int) (w : World) (hr0 : Kd.C k25 w A0 l0.length l0) (hc0 : l0.length ≤ c0) (h : active_Find.f k l0 a1 = some (r1, r2, r3)) :
 Calls Try.prog 22 #[.slice A0 l0.length c0, .string a1] w fun e w' => e = .returned (.tuple #[.int .i64 r1, .bool r2, .int .i64 r3]) ∧ Below w.heap.size w w' := by
 have HR0 := aS hr0
 have HC0 := aS hc0
 clear hr0 hc0
 have HB := aS (Below.refl w.heap.size w)
 have H : ((active_Check.f l0).bind fun t289 => (if t289 = 0 then ((active_Found.f k l0 a1).bind fun t290 => (some (mx t290 0, decide (t290 ≥ 0), 0))) else (some (0, false, t289)))) = some (r1, r2, r3) := h
 clear h
 replace H := Option.bind_eq_some_iff.mp H
 obtain ⟨t289, A30, H⟩ := H
 replace H : (if t289 = 0 then ((active_Found.f k l0 a1).bind fun t290 => (some (mx t290 0, decide (t290 ≥ 0), 0))) else (some (0, false, t289))) = some (r1, r2, r3) := H
 have A3 := aS A30
 clear A30
 by_cases c4 : t289 = 0
 ·rw [if_pos c4] at H
  have c4b0 : (t289 == 0) = true := beq_iff_eq.mpr c4
  have c4b1 : (t289 != 0) = false := bne_eq_false_iff_eq.mpr c4
  clear c4
  replace H := Option.bind_eq_some_iff.mp H
  obtain ⟨t290, A50, H⟩ := H
  replace H : (some (mx t290 0, decide (t290 ≥ 0), 0)) = some (r1, r2, r3) := H
  have A5 := aS A50
  clear A50
  obtain ⟨ji6, hji6⟩ : ∃ j_ : Int, (mx t290 0) = j_ := ⟨_, rfl⟩
  replace H : (some (ji6, decide (t290 ≥ 0), 0)) = some (r1, r2, r3) := by first | (rw [hji6] at H; exact H) | (simp only [hji6] at H ⊢; exact H)
  (try rw [hji6] at A3)
  (try rw [hji6] at A5)
  (try (have hji6l : 0 ≤ ji6 := by (rw [← hji6]; unfold mx; (repeat' split) <;> omega)))
  (try (have hji6m : 0 ≤ ji6 := by omega))
  have hji6_ : (if t290 < 0 then 0 else t290) = ji6 := hji6
  simp only [Option.some.injEq, Prod.mk.injEq] at H
  obtain ⟨rfl, rfl, rfl⟩ := H
  go_enter Try.func22, Try.ntmps22
  go_wp2_with (first | ((with_reducible refine gate_callee (f := 16) rfl ?_); refine goesL_ (some 10) rfl rfl Try.func16 (by kernel_rfl) rfl #[.slice A0 l0.length c0] rfl (by (try simp only [List.map_toArray, List.map_cons, List.map_nil]); first | done | rfl | (simp only [List.length_drop, List.length_take]; rfl)) ?_; (with_reducible refine (active_Check.calls _ _ l0 t289 _ ?side1 ?side2 A3.out).mono ?_); (case side1 => repeat (first | exact HR0.out | (with_reducible refine cA ?_ _) | (with_reducible refine cN ?_ _) | (with_reducible refine cD ?_))); (case side2 => exact HC0.out); rintro e w7 ⟨rfl, hb⟩; refine ⟨_, rfl, ?_⟩; have n0_ := aS (below_step (by repeat (first | (with_reducible first | exact HB.out | apply bA | apply bN | apply bD) | exact HB.out)) hb); clear HB; have HB := n0_; clear n0_; (try clear hb); (try clear hb2); (try clear hk); (try clear hi)) | ((with_reducible refine gate_callee (f := 66) rfl ?_); refine goesL_ (some 16) rfl rfl Try.func66 (by kernel_rfl) rfl #[.slice A0 l0.length c0, .string a1] rfl (by (try simp only [List.map_toArray, List.map_cons, List.map_nil]); first | done | rfl | (simp only [List.length_drop, List.length_take]; rfl)) ?_; (with_reducible refine (active_Found.calls k _ _ l0 a1 t290 _ ?side1 ?side2 A5.out).mono ?_); (case side1 => repeat (first | exact (Kd.C_below HR0.out HB.out) | (with_reducible refine cA ?_ _) | (with_reducible refine cN ?_ _) | (with_reducible refine cD ?_))); (case side2 => exact HC0.out); rintro e w8 ⟨rfl, hb⟩; refine ⟨_, rfl, ?_⟩; have n0_ := aS (below_step (by repeat (first | (with_reducible first | exact HB.out | apply bA | apply bN | apply bD) | exact HB.out)) hb); clear HB; have HB := n0_; clear n0_; (try clear hb); (try clear hb2); (try clear hk); (try clear hi)))
  go_ret3
  exact ⟨by first | rfl | (simp [errW_none, errW_some] <;> rfl) | (simp only [← hji6]; first | rfl | (simp [errW_none, errW_some] <;> rfl)) | (simp [*, errW_none, errW_some] <;> rfl), by repeat (first | (with_reducible first | exact HB.out | apply bA | apply bN | apply bD) | exact HB.out)⟩
 ·rw [if_neg c4] at H
  have c4b0 : (t289 == 0) = false := beq_eq_false_iff_ne.mpr c4
  have c4b1 : (t289 != 0) = true := bne_iff_ne.mpr c4
  simp only [Option.some.injEq, Prod.mk.injEq] at H
  obtain ⟨rfl, rfl, rfl⟩ := H
  go_enter Try.func22, Try.ntmps22
  go_wp2_with (first | ((with_reducible refine gate_callee (f := 16) rfl ?_); refine goesL_ (some 10) rfl rfl Try.func16 (by kernel_rfl) rfl #[.slice A0 l0.length c0] rfl (by (try simp only [List.map_toArray, List.map_cons, List.map_nil]); first | done | rfl | (simp only [List.length_drop, List.length_take]; rfl)) ?_; (with_reducible refine (active_Check.calls _ _ l0 t289 _ ?side1 ?side2 A3.out).mono ?_); (case side1 => repeat (first | exact HR0.out | (with_reducible refine cA ?_ _) | (with_reducible refine cN ?_ _) | (with_reducible refine cD ?_))); (case side2 => exact HC0.out); rintro e w9 ⟨rfl, hb⟩; refine ⟨_, rfl, ?_⟩; have n0_ := aS (below_step (by repeat (first | (with_reducible first | exact HB.out | apply bA | apply bN | apply bD) | exact HB.out)) hb); clear HB; have HB := n0_; clear n0_; (try clear hb); (try clear hb2); (try clear hk); (try clear hi)))
  go_ret3
  exact ⟨by first | rfl | (simp [errW_none, errW_some] <;> rfl) | (simp [*, errW_none, errW_some] <;> rfl), by repeat (first | (with_reducible first | exact HB.out | apply bA | apply bN | apply bD) | exact HB.out)⟩

/-! ### clerestoryref1_ActiveFind: function 24 -/
def clerestoryref1_ActiveFind.l0 : Nat → ByteArray → List (S25) → List (S25) → Int → Int → Option (Int)
 | 0, _, _, _, _, _ => none
 | k + 1, x1, x5, x6, x7, x8 => if x8 < (x6.length : Int) then (if 0 ≤ x8 then (if ((rd_T25 x6 x8).f1).toList = x1.toList then (clerestoryref1_ActiveFind.l0 k x1 x5 x6 (wrap64 ((x5.length : Int) + x8)) (wrap64 (x8 + 1))) else (clerestoryref1_ActiveFind.l0 k x1 x5 x6 x7 (wrap64 (x8 + 1)))) else (none)) else (some x7)
def clerestoryref1_ActiveFind.f (k : Nat) (l0 : List (S25)) (a1 : ByteArray) : Option (Int) := (clerestoryref1_parted.f k l0).bind fun bt291 => (clerestoryref1_ActiveFind.l0 k a1 bt291.1 bt291.2 (-1) 0)
theorem clerestoryref1_ActiveFind.mono_l : ∀ k, (∀ y0 y1 y2 y3 y4, LeO (clerestoryref1_ActiveFind.l0 k y0 y1 y2 y3 y4) (clerestoryref1_ActiveFind.l0 (k + 1) y0 y1 y2 y3 y4))
 | 0 => fun _ _ _ _ _ r h => by simp [clerestoryref1_ActiveFind.l0] at h
 | k + 1 => by
  have ih0 := clerestoryref1_ActiveFind.mono_l k
  ·intro y0 y1 y2 y3 y4
   unfold clerestoryref1_ActiveFind.l0
   repeat' first
   | (with_reducible exact ih0 _ _ _ _ _)
   | (with_reducible exact clerestoryref1_parted.mono _ _)
   | (with_reducible exact LeO.refl _)
   | (with_reducible exact LeO.none _)
   | (with_reducible refine LeO.ite ?_ ?_)
   | (with_reducible refine LeO.bind ?_ (fun _ => ?_))
   | exact ih0 _ _ _ _ _
   | exact clerestoryref1_parted.mono _ _
   | exact LeO.none _
   | refine LeO.ite ?_ ?_
   | refine LeO.bind ?_ (fun _ => ?_)
theorem clerestoryref1_ActiveFind.mono : ∀ a0 a1 k, LeO (clerestoryref1_ActiveFind.f k a0 a1) (clerestoryref1_ActiveFind.f (k + 1) a0 a1) := by
 intro a0 a1 k
 have ih0 := clerestoryref1_ActiveFind.mono_l k
 unfold clerestoryref1_ActiveFind.f
 repeat' first
  | (with_reducible exact ih0 _ _ _ _ _)
  | (with_reducible exact clerestoryref1_parted.mono _ _)
  | (with_reducible exact LeO.refl _)
  | (with_reducible exact LeO.none _)
  | (with_reducible refine LeO.ite ?_ ?_)
  | (with_reducible refine LeO.bind ?_ (fun _ => ?_))
  | exact ih0 _ _ _ _ _
  | exact clerestoryref1_parted.mono _ _
  | exact LeO.none _
  | refine LeO.ite ?_ ?_
  | refine LeO.bind ?_ (fun _ => ?_)
set_option maxHeartbeats 8000000 in
set_option maxRecDepth 100000 in
theorem clerestoryref1_ActiveFind.calls (k : Nat) (A0 : Option Addr) (c0 : Nat) (l0 : List (S25)) (a1 : ByteArray) (r : Int) (w : World) (hr0 : Kd.C k25 w A0 l0.length l0) (hc0 : l0.length ≤ c0) (h : clerestoryref1_ActiveFind.f k l0 a1 = some r) :
 Calls Try.prog 24 #[.slice A0 l0.length c0, .string a1] w fun e w' => e = .returned (.int .i64 r) ∧ Below w.heap.size w w' := by
 have HR0 := aS hr0
 have HC0 := aS hc0
 clear hr0 hc0
 have HB := aS (Below.refl w.heap.size w)
 have H : ((clerestoryref1_parted.f k l0).bind fun bt291 => (clerestoryref1_ActiveFind.l0 k a1 bt291.1 bt291.2 (-1) 0)) = some r := h
 clear h
 replace H := Option.bind_eq_some_iff.mp H
 obtain ⟨⟨t291, t294⟩, A30, H⟩ := H
 replace H : (clerestoryref1_ActiveFind.l0 k a1 t291 t294 (-1) 0) = some r := H
 have A3 := aS A30
 clear A30
 have H' := aS H
 clear H
 go_enter Try.func24, Try.ntmps24
 go_wp2_with (first | ((with_reducible refine gate_callee (f := 52) rfl ?_); refine goesL_ (some 11) rfl rfl Try.func52 (by kernel_rfl) rfl #[.slice A0 l0.length c0] rfl (by (try simp only [List.map_toArray, List.map_cons, List.map_nil]); first | done | rfl | (simp only [List.length_drop, List.length_take]; rfl)) ?_; (with_reducible refine (clerestoryref1_parted.calls k (fun k_ => k_ < w.heap.size) _ _ l0 t291 t294 _ ?side1 A3.out).mono ?_); (case side1 => exact Kd.V_mk HC0.out (Kd.F_below (Kd.C_F k25_heap HR0.out) (by repeat (first | (with_reducible first | exact HB.out | apply bA | apply bN | apply bD) | exact HB.out)))); rintro e w4 ⟨v292, v295, rfl, ho0, ho1, hb⟩; refine ⟨_, rfl, ?_⟩; have n0_ := aS (Kd.V_lower (Kd.V_mono (ok' := fun k_ => True) ho0 (fun k_ hk_ => trivial)) (below_size (by repeat (first | (with_reducible first | exact HB.out | apply bA | apply bN | apply bD) | exact HB.out)))); have n1_ := aS (Kd.V_lower (Kd.V_mono (ok' := fun k_ => True) ho1 (fun k_ hk_ => trivial)) (below_size (by repeat (first | (with_reducible first | exact HB.out | apply bA | apply bN | apply bD) | exact HB.out)))); have n2_ := aS (below_step (by repeat (first | (with_reducible first | exact HB.out | apply bA | apply bN | apply bD) | exact HB.out)) hb); clear HB; have HO293 := n0_; have HO296 := n1_; have HB := n2_; clear n0_ n1_ n2_; (try clear hb); (try clear hb2); (try clear hk); (try clear hi); (try clear ho0); (try clear ho1)))
 go_loopg [7, 8] k (fun kq v7 v8 w' => ∃ (x7_1 : Int) (x8_1 : Int), v7 = .int .i64 x7_1 ∧ v8 = .int .i64 x8_1 ∧ Aside0 (clerestoryref1_ActiveFind.l0 kq a1 t291 t294 x7_1 x8_1 = some r) ∧ Aside0 (kq ≤ k) ∧ Aside0 (Kd.V k25 25 w' w.heap.size (fun _ => True) v292 t291) ∧ Aside0 (Kd.V k25 25 w' w.heap.size (fun _ => True) v295 t294) ∧ Aside0 (Below w.heap.size w w'))
 case atStart => exact ⟨((-1)), (0), (by first | rfl | (simp; done) | simp [*]), (by first | rfl | (simp; done) | simp [*]), H', ⟨Nat.le_refl _⟩, ⟨by (with_reducible repeat (first | apply vA | apply vN | apply vD)); exact HO293.out⟩, ⟨by (with_reducible repeat (first | apply vA | apply vN | apply vD)); exact HO296.out⟩, ⟨by repeat (first | (with_reducible first | exact HB.out | apply bA | apply bN | apply bD) | exact HB.out)⟩⟩
 case round =>
  clear H'
  try clear c2
  try clear p2
  obtain ⟨x7_1, x8_1, rfl, rfl, HA, HK1, HO_5, HO_6, HB⟩ := hrel
  cases gk with
  | zero => exact absurd HA.out (by simp [clerestoryref1_ActiveFind.l0])
  | succ k1 =>
   have H := HA.out
   clear HA
   simp only [clerestoryref1_ActiveFind.l0] at H
   by_cases c5 : x8_1 < (t294.length : Int)
   ·rw [if_pos c5] at H
    have c5b0 : decide (x8_1 < (t294.length : Int)) = true := decide_eq_true c5
    clear c5
    by_cases c6 : 0 ≤ x8_1
    ·rw [if_pos c6] at H
     have c6b0 : decide (0 ≤ x8_1) = true := decide_eq_true c6
     clear c6
     by_cases c7 : ((rd_T25 t294 x8_1).f1).toList = a1.toList
     ·rw [if_pos c7] at H
      have c7b0 : (((rd_T25 t294 x8_1).f1).toList == a1.toList) = true := beq_iff_eq.mpr c7
      have c7b1 : (((rd_T25 t294 x8_1).f1).toList != a1.toList) = false := bne_eq_false_iff_eq.mpr c7
      clear c7
      have H' := aS H
      clear H
      obtain ⟨Ao8, co8, eo8⟩ := Kd.V_slice HO_6.out
      subst eo8
      have p297 : 0 ≤ (x8_1 : Int) := od (by first | (with_reducible assumption) | assumption)
      have q297 : x8_1 < (t294.length : Int) := od (by first | (with_reducible assumption) | assumption)
      obtain ⟨ad297, A297_2, c297_2, e297, hx297_0, hx297_1, hx297_2, hl297_2, hi297_2⟩ := at_T25 (Kd.V_reads' HO_6.out).2.2 x8_1 p297 q297
      cases e297
      obtain ⟨ce297, hce297, hMe297, hcc297⟩ := Kd.V_get HO_6.out z25 x8_1 p297 (by first | exact q297 | exact od (by first | (with_reducible assumption) | assumption) | (have e_ := (Kd.V_reads' HO_6.out).1; omega))
      obtain ⟨ua297_2, uc297_2, rfl, ul297_2, ge297_2⟩ := k25_openF hMe297
      have hv297_2 := hcc297 2 _ rfl
      rw [add_field _ _ 2 (by omega)] at hv297_2
      replace hv297_2 := Option.some.inj (hv297_2.symm.trans hx297_2)
      injection hv297_2 with hva_ hvn_ hvc_
      rw [hva_] at ge297_2
      rw [hvc_] at ul297_2
      have HL297_2 := aS (show Kd.V k99 99 _ w.heap.size _ _ ((rd_T25 t294 x8_1).f2) from Kd.V_mk ul297_2 ge297_2)
      clear hva_ hvn_ hvc_ ge297_2 ul297_2
      clear hcc297 hce297
      have HR297_2 := aS hi297_2
      have HC297_2 := aS hl297_2
      clear hi297_2 hl297_2
      replace p297 := eq_true p297
      replace q297 := eq_true q297
      obtain ⟨Ao9, co9, eo9⟩ := Kd.V_slice HO_5.out
      subst eo9
      go_wp2
      go_roundg k1
      case measure => have := HK1.out; omega
      case rel => exact ⟨(wrap64 ((t291.length : Int) + x8_1)), (wrap64 (x8_1 + 1)), (by first | rfl | (simp; done) | simp [*]), (by first | rfl | (simp; done) | simp [*]), H', ⟨by have := HK1.out; omega⟩, ⟨by (with_reducible repeat (first | apply vA | apply vN | apply vD)); exact HO_5.out⟩, ⟨by (with_reducible repeat (first | apply vA | apply vN | apply vD)); exact HO_6.out⟩, ⟨by repeat (first | (with_reducible first | exact HB.out | apply bA | apply bN | apply bD) | exact HB.out)⟩⟩
     ·rw [if_neg c7] at H
      have c7b0 : (((rd_T25 t294 x8_1).f1).toList == a1.toList) = false := beq_eq_false_iff_ne.mpr c7
      have c7b1 : (((rd_T25 t294 x8_1).f1).toList != a1.toList) = true := bne_iff_ne.mpr c7
      have H' := aS H
      clear H
      obtain ⟨Ao10, co10, eo10⟩ := Kd.V_slice HO_6.out
      subst eo10
      have p297 : 0 ≤ (x8_1 : Int) := od (by first | (with_reducible assumption) | assumption)
      have q297 : x8_1 < (t294.length : Int) := od (by first | (with_reducible assumption) | assumption)
      obtain ⟨ad297, A297_2, c297_2, e297, hx297_0, hx297_1, hx297_2, hl297_2, hi297_2⟩ := at_T25 (Kd.V_reads' HO_6.out).2.2 x8_1 p297 q297
      cases e297
      obtain ⟨ce297, hce297, hMe297, hcc297⟩ := Kd.V_get HO_6.out z25 x8_1 p297 (by first | exact q297 | exact od (by first | (with_reducible assumption) | assumption) | (have e_ := (Kd.V_reads' HO_6.out).1; omega))
      obtain ⟨ua297_2, uc297_2, rfl, ul297_2, ge297_2⟩ := k25_openF hMe297
      have hv297_2 := hcc297 2 _ rfl
      rw [add_field _ _ 2 (by omega)] at hv297_2
      replace hv297_2 := Option.some.inj (hv297_2.symm.trans hx297_2)
      injection hv297_2 with hva_ hvn_ hvc_
      rw [hva_] at ge297_2
      rw [hvc_] at ul297_2
      have HL297_2 := aS (show Kd.V k99 99 _ w.heap.size _ _ ((rd_T25 t294 x8_1).f2) from Kd.V_mk ul297_2 ge297_2)
      clear hva_ hvn_ hvc_ ge297_2 ul297_2
      clear hcc297 hce297
      have HR297_2 := aS hi297_2
      have HC297_2 := aS hl297_2
      clear hi297_2 hl297_2
      replace p297 := eq_true p297
      replace q297 := eq_true q297
      go_wp2
      go_roundg k1
      case measure => have := HK1.out; omega
      case rel => exact ⟨(x7_1), (wrap64 (x8_1 + 1)), (by first | rfl | (simp; done) | simp [*]), (by first | rfl | (simp; done) | simp [*]), H', ⟨by have := HK1.out; omega⟩, ⟨by (with_reducible repeat (first | apply vA | apply vN | apply vD)); exact HO_5.out⟩, ⟨by (with_reducible repeat (first | apply vA | apply vN | apply vD)); exact HO_6.out⟩, ⟨by repeat (first | (with_reducible first | exact HB.out | apply bA | apply bN | apply bD) | exact HB.out)⟩⟩
    ·rw [if_neg c6] at H
     exact absurd H (by simp)
   ·rw [if_neg c5] at H
    have c5b0 : decide (x8_1 < (t294.length : Int)) = false := decide_eq_false c5
    clear c5
    obtain rfl := Option.some.inj H
    obtain ⟨Ao11, co11, eo11⟩ := Kd.V_slice HO_6.out
    subst eo11
    go_wp2
    go_ret
    exact ⟨by first | rfl | (simp [errW_none, errW_some] <;> rfl) | (simp [*, errW_none, errW_some] <;> rfl), by repeat (first | (with_reducible first | exact HB.out | apply bA | apply bN | apply bD) | exact HB.out)⟩

/-! ### clerestoryref1_placeIn: function 68 -/
def clerestoryref1_placeIn.l0 : Nat → List Int → Int → Int → Option (Int)
 | 0, _, _, _ => none
 | k + 1, x0, x1, x5 => if x5 < (x0.length : Int) then (if 0 ≤ x5 then (if (rd x0 x5) = x1 then (some x5) else (clerestoryref1_placeIn.l0 k x0 x1 (wrap64 (x5 + 1)))) else (none)) else (some (-1))
def clerestoryref1_placeIn.f (k : Nat) (l0 : List Int) (a1 : Int) : Option (Int) := clerestoryref1_placeIn.l0 k l0 a1 0
theorem clerestoryref1_placeIn.mono_l : ∀ k, (∀ y0 y1 y2, LeO (clerestoryref1_placeIn.l0 k y0 y1 y2) (clerestoryref1_placeIn.l0 (k + 1) y0 y1 y2))
 | 0 => fun _ _ _ r h => by simp [clerestoryref1_placeIn.l0] at h
 | k + 1 => by
  have ih0 := clerestoryref1_placeIn.mono_l k
  ·intro y0 y1 y2
   unfold clerestoryref1_placeIn.l0
   repeat' first
   | (with_reducible exact ih0 _ _ _)
   | (with_reducible exact LeO.refl _)
   | (with_reducible exact LeO.none _)
   | (with_reducible refine LeO.ite ?_ ?_)
   | (with_reducible refine LeO.bind ?_ (fun _ => ?_))
   | exact ih0 _ _ _
   | exact LeO.none _
   | refine LeO.ite ?_ ?_
   | refine LeO.bind ?_ (fun _ => ?_)
theorem clerestoryref1_placeIn.mono : ∀ a0 a1 k, LeO (clerestoryref1_placeIn.f k a0 a1) (clerestoryref1_placeIn.f (k + 1) a0 a1) := by
 intro a0 a1 k
 have ih0 := clerestoryref1_placeIn.mono_l k
 unfold clerestoryref1_placeIn.f
 repeat' first
  | (with_reducible exact ih0 _ _ _)
  | (with_reducible exact LeO.refl _)
  | (with_reducible exact LeO.none _)
  | (with_reducible refine LeO.ite ?_ ?_)
  | (with_reducible refine LeO.bind ?_ (fun _ => ?_))
  | exact ih0 _ _ _
  | exact LeO.none _
  | refine LeO.ite ?_ ?_
  | refine LeO.bind ?_ (fun _ => ?_)
set_option maxHeartbeats 8000000 in
set_option maxRecDepth 100000 in
theorem clerestoryref1_placeIn.calls (k : Nat) (A0 : Option Addr) (c0 : Nat) (l0 : List Int) (a1 : Int) (r : Int) (w : World) (hr0 : Kd.C (Kd.int .i64) w A0 l0.length l0) (hc0 : l0.length ≤ c0) (h : clerestoryref1_placeIn.f k l0 a1 = some r) :
 Calls Try.prog 68 #[.slice A0 l0.length c0, .int .i64 a1] w fun e w' => e = .returned (.int .i64 r) ∧ Drawn0 w w' := by
 have HR0 := aS hr0
 have HC0 := aS hc0
 clear hr0 hc0
 have H : (clerestoryref1_placeIn.l0 k l0 a1 0) = some r := h
 clear h
 have H' := aS H
 clear H
 go_enter Try.func68, Try.ntmps68
 go_wp2
 go_loopg [5] k (fun kq v5 w' => ∃ (x5_1 : Int), v5 = .int .i64 x5_1 ∧ Aside0 (clerestoryref1_placeIn.l0 kq l0 a1 x5_1 = some r) ∧ Aside0 (kq ≤ k) ∧ Drawn0 w w')
 case atStart => exact ⟨(0), (by first | rfl | (simp; done) | simp [*]), H', ⟨Nat.le_refl _⟩, by repeat (first | exact Drawn0.refl _ | apply Drawn0.step)⟩
 case round =>
  clear H'
  try clear p2
  obtain ⟨x5_1, rfl, HA, HK1, ⟨m1, rfl⟩⟩ := hrel
  cases gk with
  | zero => exact absurd HA.out (by simp [clerestoryref1_placeIn.l0])
  | succ k1 =>
   have H := HA.out
   clear HA
   simp only [clerestoryref1_placeIn.l0] at H
   by_cases c3 : x5_1 < (l0.length : Int)
   ·rw [if_pos c3] at H
    have c3b0 : decide (x5_1 < (l0.length : Int)) = true := decide_eq_true c3
    clear c3
    by_cases c4 : 0 ≤ x5_1
    ·rw [if_pos c4] at H
     have c4b0 : decide (0 ≤ x5_1) = true := decide_eq_true c4
     clear c4
     by_cases c5 : (rd l0 x5_1) = a1
     ·rw [if_pos c5] at H
      have c5b0 : ((rd l0 x5_1) == a1) = true := beq_iff_eq.mpr c5
      have c5b1 : ((rd l0 x5_1) != a1) = false := bne_eq_false_iff_eq.mpr c5
      clear c5
      obtain rfl := Option.some.inj H
      have p298 : 0 ≤ (x5_1 : Int) := od (by first | (with_reducible assumption) | assumption)
      have q298 : x5_1 < (l0.length : Int) := od (by first | (with_reducible assumption) | assumption)
      obtain ⟨ad298, e298, hx298_0⟩ := Kd.at_int HR0.out x5_1 p298 q298
      cases e298
      replace p298 := eq_true p298
      replace q298 := eq_true q298
      go_wp2
      go_ret
      exact ⟨by first | rfl | (simp; done) | (simp [*]; done), by repeat (first | exact Drawn0.refl _ | apply Drawn0.step)⟩
     ·rw [if_neg c5] at H
      have c5b0 : ((rd l0 x5_1) == a1) = false := beq_eq_false_iff_ne.mpr c5
      have c5b1 : ((rd l0 x5_1) != a1) = true := bne_iff_ne.mpr c5
      have H' := aS H
      clear H
      have p298 : 0 ≤ (x5_1 : Int) := od (by first | (with_reducible assumption) | assumption)
      have q298 : x5_1 < (l0.length : Int) := od (by first | (with_reducible assumption) | assumption)
      obtain ⟨ad298, e298, hx298_0⟩ := Kd.at_int HR0.out x5_1 p298 q298
      cases e298
      replace p298 := eq_true p298
      replace q298 := eq_true q298
      go_wp2
      go_roundg k1
      case measure => have := HK1.out; omega
      case rel => exact ⟨(wrap64 (x5_1 + 1)), (by first | rfl | (simp; done) | simp [*]), H', ⟨by have := HK1.out; omega⟩, by repeat (first | exact Drawn0.refl _ | apply Drawn0.step)⟩
    ·rw [if_neg c4] at H
     exact absurd H (by simp)
   ·rw [if_neg c3] at H
    have c3b0 : decide (x5_1 < (l0.length : Int)) = false := decide_eq_false c3
    clear c3
    obtain rfl := Option.some.inj H
    go_wp2
    go_ret
    exact ⟨by first | rfl | (simp; done) | (simp [*]; done), by repeat (first | exact Drawn0.refl _ | apply Drawn0.step)⟩

/-! ### clerestoryref1_ActiveAgain: function 25 -/
def clerestoryref1_ActiveAgain.l0 : Nat → List Int → List (S25) → List (S25) → List Int → Int → Option (List Int)
 | 0, _, _, _, _, _ => none
 | k + 1, x1, x5, x6, x7, x8 => if x8 < (x6.length : Int) then (if 0 ≤ x8 then ((clerestoryref1_placeIn.f k x1 ((rd_T25 x6 x8).f0)).bind fun t306 => (if t306 ≥ 0 then (clerestoryref1_ActiveAgain.l0 k x1 x5 x6 ([] : List Int) (wrap64 (x8 + 1))) else (if x7.length < 17592186044416 then (clerestoryref1_ActiveAgain.l0 k x1 x5 x6 (x7 ++ [wrap64 ((x5.length : Int) + x8)]) (wrap64 (x8 + 1))) else (none)))) else (none)) else (some x7)
def clerestoryref1_ActiveAgain.f (k : Nat) (l0 : List (S25)) (l1 : List Int) : Option (List Int) := (clerestoryref1_parted.f k l0).bind fun bt299 => (clerestoryref1_ActiveAgain.l0 k l1 bt299.1 bt299.2 ([] : List Int) 0)
theorem clerestoryref1_ActiveAgain.mono_l : ∀ k, (∀ y0 y1 y2 y3 y4, LeO (clerestoryref1_ActiveAgain.l0 k y0 y1 y2 y3 y4) (clerestoryref1_ActiveAgain.l0 (k + 1) y0 y1 y2 y3 y4))
 | 0 => fun _ _ _ _ _ r h => by simp [clerestoryref1_ActiveAgain.l0] at h
 | k + 1 => by
  have ih0 := clerestoryref1_ActiveAgain.mono_l k
  ·intro y0 y1 y2 y3 y4
   unfold clerestoryref1_ActiveAgain.l0
   repeat' first
   | (with_reducible exact ih0 _ _ _ _ _)
   | (with_reducible exact clerestoryref1_parted.mono _ _)
   | (with_reducible exact clerestoryref1_placeIn.mono _ _ _)
   | (with_reducible exact LeO.refl _)
   | (with_reducible exact LeO.none _)
   | (with_reducible refine LeO.ite ?_ ?_)
   | (with_reducible refine LeO.bind ?_ (fun _ => ?_))
   | exact ih0 _ _ _ _ _
   | exact clerestoryref1_parted.mono _ _
   | exact clerestoryref1_placeIn.mono _ _ _
   | exact LeO.none _
   | refine LeO.ite ?_ ?_
   | refine LeO.bind ?_ (fun _ => ?_)
theorem clerestoryref1_ActiveAgain.mono : ∀ a0 a1 k, LeO (clerestoryref1_ActiveAgain.f k a0 a1) (clerestoryref1_ActiveAgain.f (k + 1) a0 a1) := by
 intro a0 a1 k
 have ih0 := clerestoryref1_ActiveAgain.mono_l k
 unfold clerestoryref1_ActiveAgain.f
 repeat' first
  | (with_reducible exact ih0 _ _ _ _ _)
  | (with_reducible exact clerestoryref1_parted.mono _ _)
  | (with_reducible exact clerestoryref1_placeIn.mono _ _ _)
  | (with_reducible exact LeO.refl _)
  | (with_reducible exact LeO.none _)
  | (with_reducible refine LeO.ite ?_ ?_)
  | (with_reducible refine LeO.bind ?_ (fun _ => ?_))
  | exact ih0 _ _ _ _ _
  | exact clerestoryref1_parted.mono _ _
  | exact clerestoryref1_placeIn.mono _ _ _
  | exact LeO.none _
  | refine LeO.ite ?_ ?_
  | refine LeO.bind ?_ (fun _ => ?_)
set_option maxHeartbeats 8000000 in
set_option maxRecDepth 100000 in
theorem clerestoryref1_ActiveAgain.calls (k : Nat) (A0 : Option Addr) (c0 : Nat) (l0 : List (S25)) (A1 : Option Addr) (c1 : Nat) (l1 : List Int) (r : List Int) (w : World) (hr0 : Kd.C k25 w A0 l0.length l0) (hc0 : l0.length ≤ c0) (hr1 : Kd.C (Kd.int .i64) w A1 l1.length l1) (hc1 : l1.length ≤ c1) (h : clerestoryref1_ActiveAgain.f k l0 l1 = some r) :
 Calls Try.prog 25 #[.slice A0 l0.length c0, .slice A1 l1.length c1] w fun e w' => ∃ v0_ : Value, e = .returned (v0_) ∧ Kd.R (Kd.int .i64) 3 w' w.heap.size (fun _ => True) v0_ r ∧ Below w.heap.size w w' := by
 have HR0 := aS hr0
 have HC0 := aS hc0
 clear hr0 hc0
 have HR1 := aS hr1
 have HC1 := aS hc1
 clear hr1 hc1
 have HB := aS (Below.refl w.heap.size w)
 have H : ((clerestoryref1_parted.f k l0).bind fun bt299 => (clerestoryref1_ActiveAgain.l0 k l1 bt299.1 bt299.2 ([] : List Int) 0)) = some r := h
 clear h
 replace H := Option.bind_eq_some_iff.mp H
 obtain ⟨⟨t299, t302⟩, A30, H⟩ := H
 replace H : (clerestoryref1_ActiveAgain.l0 k l1 t299 t302 ([] : List Int) 0) = some r := H
 have A3 := aS A30
 clear A30
 have H' := aS H
 clear H
 go_enter Try.func25, Try.ntmps25
 go_wp2_with (first | ((with_reducible refine gate_callee (f := 52) rfl ?_); refine goesL_ (some 11) rfl rfl Try.func52 (by kernel_rfl) rfl #[.slice A0 l0.length c0] rfl (by (try simp only [List.map_toArray, List.map_cons, List.map_nil]); first | done | rfl | (simp only [List.length_drop, List.length_take]; rfl)) ?_; (with_reducible refine (clerestoryref1_parted.calls k (fun k_ => k_ < w.heap.size) _ _ l0 t299 t302 _ ?side1 A3.out).mono ?_); (case side1 => exact Kd.V_mk HC0.out (Kd.F_below (Kd.C_F k25_heap HR0.out) (by repeat (first | (with_reducible first | exact HB.out | apply bA | apply bN | apply bD) | exact HB.out)))); rintro e w4 ⟨v300, v303, rfl, ho0, ho1, hb⟩; refine ⟨_, rfl, ?_⟩; have n0_ := aS (Kd.V_lower (Kd.V_mono (ok' := fun k_ => True) ho0 (fun k_ hk_ => trivial)) (below_size (by repeat (first | (with_reducible first | exact HB.out | apply bA | apply bN | apply bD) | exact HB.out)))); have n1_ := aS (Kd.V_lower (Kd.V_mono (ok' := fun k_ => True) ho1 (fun k_ hk_ => trivial)) (below_size (by repeat (first | (with_reducible first | exact HB.out | apply bA | apply bN | apply bD) | exact HB.out)))); have n2_ := aS (below_step (by repeat (first | (with_reducible first | exact HB.out | apply bA | apply bN | apply bD) | exact HB.out)) hb); clear HB; have HO301 := n0_; have HO304 := n1_; have HB := n2_; clear n0_ n1_ n2_; (try clear hb); (try clear hb2); (try clear hk); (try clear hi); (try clear ho0); (try clear ho1)))
 go_loopg [7, 8] k (fun kq v7 v8 w' => ∃ (x7_1 : List Int) (x8_1 : Int), v8 = .int .i64 x8_1 ∧ Aside0 (clerestoryref1_ActiveAgain.l0 kq l1 t299 t302 x7_1 x8_1 = some r) ∧ Aside0 (kq ≤ k) ∧ Aside0 (Kd.V k25 25 w' w.heap.size (fun k_ => some k_ ≠ (v7 : Value).ownBlock) v300 t299) ∧ Aside0 (Kd.V k25 25 w' w.heap.size (fun k_ => some k_ ≠ (v7 : Value).ownBlock) v303 t302) ∧ Aside0 (Kd.R (Kd.int .i64) 3 w' w.heap.size (fun _ => True) v7 x7_1) ∧ Aside0 (Below w.heap.size w w'))
 case atStart => exact ⟨(([] : List Int)), (0), (by first | rfl | (simp; done) | simp [*]), H', ⟨Nat.le_refl _⟩, ⟨by (with_reducible repeat (first | apply vA | apply vN | apply vD)); exact Kd.V_mono HO301.out (fun _ hk => (by simp [Value.ownBlock]))⟩, ⟨by (with_reducible repeat (first | apply vA | apply vN | apply vD)); exact Kd.V_mono HO304.out (fun _ hk => (by simp [Value.ownBlock]))⟩, ⟨by first | exact Kd.R_nil _ _ _ _ _ | exact Kd.N_nil _ _ _ _ _ | exact Kd.V_nil _ _ _ _ _ | exact Kd.Q_nil _ _ _ _ _ | exact Kd.S_nil _ _ _ _ _⟩, ⟨by repeat (first | (with_reducible first | exact HB.out | apply bA | apply bN | apply bD) | exact HB.out)⟩⟩
 case round =>
  clear H'
  try clear c1
  try clear c2
  try clear p2
  obtain ⟨x7_1, x8_1, rfl, HA, HK1, HO_5, HO_6, HO_7, HB⟩ := hrel
  cases gk with
  | zero => exact absurd HA.out (by simp [clerestoryref1_ActiveAgain.l0])
  | succ k1 =>
   have H := HA.out
   clear HA
   simp only [clerestoryref1_ActiveAgain.l0] at H
   by_cases c5 : x8_1 < (t302.length : Int)
   ·rw [if_pos c5] at H
    have c5b0 : decide (x8_1 < (t302.length : Int)) = true := decide_eq_true c5
    clear c5
    by_cases c6 : 0 ≤ x8_1
    ·rw [if_pos c6] at H
     have c6b0 : decide (0 ≤ x8_1) = true := decide_eq_true c6
     clear c6
     replace H := Option.bind_eq_some_iff.mp H
     obtain ⟨t306, A70, H⟩ := H
     replace H : (if t306 ≥ 0 then (clerestoryref1_ActiveAgain.l0 k1 l1 t299 t302 ([] : List Int) (wrap64 (x8_1 + 1))) else (if x7_1.length < 17592186044416 then (clerestoryref1_ActiveAgain.l0 k1 l1 t299 t302 (x7_1 ++ [wrap64 ((t299.length : Int) + x8_1)]) (wrap64 (x8_1 + 1))) else (none))) = some r := H
     have A7 := aS A70
     clear A70
     by_cases c8 : t306 ≥ 0
     ·rw [if_pos c8] at H
      have c8b0 : decide (0 ≤ t306) = true := decide_eq_true c8
      clear c8
      have H' := aS H
      clear H
      obtain ⟨Ao9, co9, eo9⟩ := Kd.V_slice HO_6.out
      subst eo9
      have p305 : 0 ≤ (x8_1 : Int) := od (by first | (with_reducible assumption) | assumption)
      have q305 : x8_1 < (t302.length : Int) := od (by first | (with_reducible assumption) | assumption)
      obtain ⟨ad305, A305_2, c305_2, e305, hx305_0, hx305_1, hx305_2, hl305_2, hi305_2⟩ := at_T25 (Kd.V_reads' HO_6.out).2.2 x8_1 p305 q305
      cases e305
      obtain ⟨ce305, hce305, hMe305, hcc305⟩ := Kd.V_get HO_6.out z25 x8_1 p305 (by first | exact q305 | exact od (by first | (with_reducible assumption) | assumption) | (have e_ := (Kd.V_reads' HO_6.out).1; omega))
      obtain ⟨ua305_2, uc305_2, rfl, ul305_2, ge305_2⟩ := k25_openF hMe305
      have hv305_2 := hcc305 2 _ rfl
      rw [add_field _ _ 2 (by omega)] at hv305_2
      replace hv305_2 := Option.some.inj (hv305_2.symm.trans hx305_2)
      injection hv305_2 with hva_ hvn_ hvc_
      rw [hva_] at ge305_2
      rw [hvc_] at ul305_2
      have HL305_2 := aS (show Kd.V k99 99 _ w.heap.size _ _ ((rd_T25 t302 x8_1).f2) from Kd.V_mk ul305_2 ge305_2)
      clear hva_ hvn_ hvc_ ge305_2 ul305_2
      clear hcc305 hce305
      have HR305_2 := aS hi305_2
      have HC305_2 := aS hl305_2
      clear hi305_2 hl305_2
      replace p305 := eq_true p305
      replace q305 := eq_true q305
      go_wp2_with (first | ((with_reducible refine gate_callee (f := 68) rfl ?_); refine goesL_ (some 26) rfl rfl Try.func68 (by kernel_rfl) rfl #[.slice A1 l1.length c1, .int .i64 ((rd_T25 t302 x8_1).f0)] rfl (by (try simp only [List.map_toArray, List.map_cons, List.map_nil]); first | done | rfl | (simp only [List.length_drop, List.length_take]; rfl)) ?_; (with_reducible refine (clerestoryref1_placeIn.calls k1 _ _ l1 ((rd_T25 t302 x8_1).f0) t306 _ ?side1 ?side2 A7.out).mono ?_); (case side1 => repeat (first | exact (Kd.C_below HR1.out HB.out) | (with_reducible refine cA ?_ _) | (with_reducible refine cN ?_ _) | (with_reducible refine cD ?_))); (case side2 => exact HC1.out); rintro e w' ⟨rfl, ⟨nd, rfl⟩⟩; refine ⟨_, rfl, ?_⟩))
      go_roundg k1
      case measure => have := HK1.out; omega
      case rel => exact ⟨(([] : List Int)), (wrap64 (x8_1 + 1)), (by first | rfl | (simp; done) | simp [*]), H', ⟨by have := HK1.out; omega⟩, ⟨by (with_reducible repeat (first | apply vA | apply vN | apply vD)); exact Kd.V_mono HO_5.out (fun _ hk => (by simp [Value.ownBlock]))⟩, ⟨by (with_reducible repeat (first | apply vA | apply vN | apply vD)); exact Kd.V_mono HO_6.out (fun _ hk => (by simp [Value.ownBlock]))⟩, ⟨by first | exact Kd.R_nil _ _ _ _ _ | exact Kd.N_nil _ _ _ _ _ | exact Kd.V_nil _ _ _ _ _ | exact Kd.Q_nil _ _ _ _ _ | exact Kd.S_nil _ _ _ _ _⟩, ⟨by repeat (first | (with_reducible first | exact HB.out | apply bA | apply bN | apply bD) | exact HB.out)⟩⟩
     ·rw [if_neg c8] at H
      have c8b0 : decide (0 ≤ t306) = false := decide_eq_false c8
      clear c8
      by_cases c10 : x7_1.length < 17592186044416
      ·rw [if_pos c10] at H
       have LMc10 := aS c10
       clear c10
       obtain ⟨y307, hy307⟩ : ∃ y_ : List Int, y_ = (x7_1 ++ [wrap64 ((t299.length : Int) + x8_1)]) := ⟨_, rfl⟩
       replace H : (clerestoryref1_ActiveAgain.l0 k1 l1 t299 t302 y307 (wrap64 (x8_1 + 1))) = some r := by first | (rw [hy307]; with_reducible exact H) | (have H2_ := (Option.bind_some _ _).symm.trans H; rw [hy307]; with_reducible exact H2_) | (have H2_ := (Option.bind_some _ _).symm.trans H; with_reducible exact H2_) | with_reducible exact H | (rw [hy307]; exact H) | exact H
       have Ny307 := aS hy307
       clear hy307
       have H' := aS H
       clear H
       obtain ⟨Ao11, co11, eo11⟩ := Kd.V_slice HO_6.out
       subst eo11
       have p305 : 0 ≤ (x8_1 : Int) := od (by first | (with_reducible assumption) | assumption)
       have q305 : x8_1 < (t302.length : Int) := od (by first | (with_reducible assumption) | assumption)
       obtain ⟨ad305, A305_2, c305_2, e305, hx305_0, hx305_1, hx305_2, hl305_2, hi305_2⟩ := at_T25 (Kd.V_reads' HO_6.out).2.2 x8_1 p305 q305
       cases e305
       obtain ⟨ce305, hce305, hMe305, hcc305⟩ := Kd.V_get HO_6.out z25 x8_1 p305 (by first | exact q305 | exact od (by first | (with_reducible assumption) | assumption) | (have e_ := (Kd.V_reads' HO_6.out).1; omega))
       obtain ⟨ua305_2, uc305_2, rfl, ul305_2, ge305_2⟩ := k25_openF hMe305
       have hv305_2 := hcc305 2 _ rfl
       rw [add_field _ _ 2 (by omega)] at hv305_2
       replace hv305_2 := Option.some.inj (hv305_2.symm.trans hx305_2)
       injection hv305_2 with hva_ hvn_ hvc_
       rw [hva_] at ge305_2
       rw [hvc_] at ul305_2
       have HL305_2 := aS (show Kd.V k99 99 _ w.heap.size _ _ ((rd_T25 t302 x8_1).f2) from Kd.V_mk ul305_2 ge305_2)
       clear hva_ hvn_ hvc_ ge305_2 ul305_2
       clear hcc305 hce305
       have HR305_2 := aS hi305_2
       have HC305_2 := aS hl305_2
       clear hi305_2 hl305_2
       replace p305 := eq_true p305
       replace q305 := eq_true q305
       go_wp2_with (first | ((with_reducible refine gate_callee (f := 68) rfl ?_); refine goesL_ (some 26) rfl rfl Try.func68 (by kernel_rfl) rfl #[.slice A1 l1.length c1, .int .i64 ((rd_T25 t302 x8_1).f0)] rfl (by (try simp only [List.map_toArray, List.map_cons, List.map_nil]); first | done | rfl | (simp only [List.length_drop, List.length_take]; rfl)) ?_; (with_reducible refine (clerestoryref1_placeIn.calls k1 _ _ l1 ((rd_T25 t302 x8_1).f0) t306 _ ?side1 ?side2 A7.out).mono ?_); (case side1 => repeat (first | exact (Kd.C_below HR1.out HB.out) | (with_reducible refine cA ?_ _) | (with_reducible refine cN ?_ _) | (with_reducible refine cD ?_))); (case side2 => exact HC1.out); rintro e w' ⟨rfl, ⟨nd, rfl⟩⟩; refine ⟨_, rfl, ?_⟩; obtain ⟨Ao12, co12, eo12⟩ := Kd.V_slice HO_5.out; subst eo12) | ((with_reducible refine gate_builtin (b := .append) (xs := #[.tmp 28, .tmp 33]) rfl ?_); at_builtin; refine Kd.R_append (Kd.int .i64) (w0 := w) w.heap.size rfl (.tmp 28) (.tmp 33) 39 3 (.int .i64 0) 8 rfl Try.underlying39 info3 rfl (by decide) (by omega) u7 x7_1 (wrap64 ((t299.length : Int) + x8_1)) [.int .i64 (wrap64 ((t299.length : Int) + x8_1))] (fun _ => True) (fun _ => False) rfl rfl ?aP (fun _ hk => hk.elim) ?aF ?aO ?aB ?aS ?aL ?_; (case aP => exact rfl); (case aB => exact (by repeat (first | (with_reducible first | exact HB.out | apply bA | apply bN | apply bD) | exact HB.out))); (case aF => exact (fun _ _ => trivial)); (case aO => exact (by (with_reducible repeat (first | apply rA | apply rN | apply rD)); exact HO_7.out)); (case aS => exact (below_size (by repeat (first | (with_reducible first | exact HB.out | apply bA | apply bN | apply bD) | exact HB.out)))); (case aL => have := LMc10.out; omega); intro v308 w13 ho hb hg hat; rw [← Ny307.out] at ho; have n0_ := aS (Kd.V_afterv (ok := (fun _ => True)) (by (with_reducible repeat (first | apply vA | apply vN | apply vD)); exact Kd.V_mono HO_5.out (fun _ hk => ⟨trivial, hk⟩)) hg hat); have n1_ := aS (Kd.V_afterv (ok := (fun _ => True)) (by (with_reducible repeat (first | apply vA | apply vN | apply vD)); exact Kd.V_mono HO_6.out (fun _ hk => ⟨trivial, hk⟩)) hg hat); have n2_ := aS (Kd.V_afterv (ok := (fun _ => True)) (by (with_reducible repeat (first | apply vA | apply vN | apply vD)); exact Kd.V_mono HL305_2.out (fun _ hk => ⟨trivial, hk⟩)) hg hat); have n3_ := aS (hb); have n4_ := aS (ho); clear HO_5; clear HO_6; clear HL305_2; clear HB; clear HO_7; have HO_5 := n0_; have HO_6 := n1_; have HL305_2 := n2_; have HB := n3_; have HO309 := n4_; clear n0_ n1_ n2_ n3_ n4_; clear ho hb hg hat))
       go_roundg k1
       case measure => have := HK1.out; omega
       case rel => exact ⟨(y307), (wrap64 (x8_1 + 1)), (by first | rfl | (simp; done) | simp [*]), H', ⟨by have := HK1.out; omega⟩, ⟨by (with_reducible repeat (first | apply vA | apply vN | apply vD)); exact Kd.V_mono HO_5.out (fun _ hk => hk.2)⟩, ⟨by (with_reducible repeat (first | apply vA | apply vN | apply vD)); exact Kd.V_mono HO_6.out (fun _ hk => hk.2)⟩, ⟨by (with_reducible repeat (first | apply rA | apply rN | apply rD)); exact HO309.out⟩, ⟨by repeat (first | (with_reducible first | exact HB.out | apply bA | apply bN | apply bD) | exact HB.out)⟩⟩
      ·rw [if_neg c10] at H
       exact absurd H (by simp)
    ·rw [if_neg c6] at H
     exact absurd H (by simp)
   ·rw [if_neg c5] at H
    have c5b0 : decide (x8_1 < (t302.length : Int)) = false := decide_eq_false c5
    clear c5
    obtain rfl := Option.some.inj H
    obtain ⟨Ao14, co14, eo14⟩ := Kd.V_slice HO_6.out
    subst eo14
    go_wp2
    go_ret
    exact ⟨_, by first | rfl | (simp [errW_none, errW_some] <;> rfl) | (simp [*, errW_none, errW_some] <;> rfl), by (with_reducible repeat (first | apply rA | apply rN | apply rD)); exact HO_7.out, by repeat (first | (with_reducible first | exact HB.out | apply bA | apply bN | apply bD) | exact HB.out)⟩

end Go.Proofs.Ythecjfkafpndoaa.XAc
