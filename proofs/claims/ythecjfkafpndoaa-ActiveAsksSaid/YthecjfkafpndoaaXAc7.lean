/- Written by this session's program (wip/xp) out of the translation as Lean prints it: for each Go function a Lean function and the proof that the code answers just so, on the conditions named in each statement. -/
import Derived.Test.YthecjfkafpndoaaXAc0
import Derived.Test.YthecjfkafpndoaaXAc1
import Derived.Test.YthecjfkafpndoaaXAc2
import Derived.Test.YthecjfkafpndoaaXAc3
namespace Go.Proofs.Ythecjfkafpndoaa.XAc
open Go.Proofs.Ythecjfkafpndoaa.Short Go.RowKit Go.Proofs.YthecjfkafpndoaaW.PrintWords Go.Proofs.YthecjfkafpndoaaW.PrintLast Go.Proofs.YthecjfkafpndoaaW.PrintMore
attribute [local go_sem] max2_int min2_int max_two min_two max_three min_three max_four min_four   -- for this text's walks alone
set_option linter.unusedVariables false
set_option linter.unusedSimpArgs false

attribute [local go_sem high] eqA99
/-! ### slices_Index_int_int: function 114 -/
def slices_Index_int_int.l0 : Nat → List Int → Int → Int → Int → Option (Int)
 | 0, _, _, _, _ => none
 | k + 1, x0, x1, x7, x8 => if x8 < x7 then (if 0 ≤ x8 then (if x8 < (x0.length : Int) then (if x1 = (rd x0 x8) then (some x8) else (slices_Index_int_int.l0 k x0 x1 x7 (wrap64 (x8 + 1)))) else (none)) else (none)) else (some (-1))
def slices_Index_int_int.f (k : Nat) (l0 : List Int) (a1 : Int) : Option (Int) := slices_Index_int_int.l0 k l0 a1 (l0.length : Int) 0
theorem slices_Index_int_int.mono_l : ∀ k, (∀ y0 y1 y2 y3, LeO (slices_Index_int_int.l0 k y0 y1 y2 y3) (slices_Index_int_int.l0 (k + 1) y0 y1 y2 y3))
 | 0 => fun _ _ _ _ r h => by simp [slices_Index_int_int.l0] at h
 | k + 1 => by
  have ih0 := slices_Index_int_int.mono_l k
  ·intro y0 y1 y2 y3
   unfold slices_Index_int_int.l0
   repeat' first
   | (with_reducible exact ih0 _ _ _ _)
   | (with_reducible exact LeO.refl _)
   | (with_reducible exact LeO.none _)
   | (with_reducible refine LeO.ite ?_ ?_)
   | (with_reducible refine LeO.bind ?_ (fun _ => ?_))
   | exact ih0 _ _ _ _
   | exact LeO.none _
   | refine LeO.ite ?_ ?_
   | refine LeO.bind ?_ (fun _ => ?_)
theorem slices_Index_int_int.mono : ∀ a0 a1 k, LeO (slices_Index_int_int.f k a0 a1) (slices_Index_int_int.f (k + 1) a0 a1) := by
 intro a0 a1 k
 have ih0 := slices_Index_int_int.mono_l k
 unfold slices_Index_int_int.f
 repeat' first
  | (with_reducible exact ih0 _ _ _ _)
  | (with_reducible exact LeO.refl _)
  | (with_reducible exact LeO.none _)
  | (with_reducible refine LeO.ite ?_ ?_)
  | (with_reducible refine LeO.bind ?_ (fun _ => ?_))
  | exact ih0 _ _ _ _
  | exact LeO.none _
  | refine LeO.ite ?_ ?_
  | refine LeO.bind ?_ (fun _ => ?_)
set_option maxHeartbeats 8000000 in
set_option maxRecDepth 100000 in
theorem slices_Index_int_int.calls (k : Nat) (A0 : Option Addr) (c0 : Nat) (l0 : List Int) (a1 : Int) (r : Int) (w : World) (hr0 : Kd.C (Kd.int .i64) w A0 l0.length l0) (hc0 : l0.length ≤ c0) (h : slices_Index_int_int.f k l0 a1 = some r) :
 Calls Try.prog 114 #[.slice A0 l0.length c0, .int .i64 a1] w fun e w' => e = .returned (.int .i64 r) ∧ Drawn0 w w' := by
 have HR0 := aS hr0
 have HC0 := aS hc0
 clear hr0 hc0
 have H : (slices_Index_int_int.l0 k l0 a1 (l0.length : Int) 0) = some r := h
 clear h
 have H' := aS H
 clear H
 go_enter Try.func114, Try.ntmps114
 go_wp2
 go_loopg [8] k (fun kq v8 w' => ∃ (x8_1 : Int), v8 = .int .i64 x8_1 ∧ Aside0 (slices_Index_int_int.l0 kq l0 a1 (l0.length : Int) x8_1 = some r) ∧ Aside0 (kq ≤ k) ∧ Drawn0 w w')
 case atStart => exact ⟨(0), (by first | rfl | (simp; done) | simp [*]), H', ⟨Nat.le_refl _⟩, by repeat (first | exact Drawn0.refl _ | apply Drawn0.step)⟩
 case round =>
  clear H'
  try clear c1
  try clear p2
  obtain ⟨x8_1, rfl, HA, HK1, ⟨m1, rfl⟩⟩ := hrel
  cases gk with
  | zero => exact absurd HA.out (by simp [slices_Index_int_int.l0])
  | succ k1 =>
   have H := HA.out
   clear HA
   simp only [slices_Index_int_int.l0] at H
   by_cases c3 : x8_1 < (l0.length : Int)
   ·rw [if_pos c3] at H
    have c3b0 : decide (x8_1 < (l0.length : Int)) = true := decide_eq_true c3
    clear c3
    by_cases c4 : 0 ≤ x8_1
    ·rw [if_pos c4] at H
     have c4b0 : decide (0 ≤ x8_1) = true := decide_eq_true c4
     clear c4
     by_cases c5 : x8_1 < (l0.length : Int)
     ·rw [if_pos c5] at H
      have c5b0 : decide (x8_1 < (l0.length : Int)) = true := decide_eq_true c5
      clear c5
      by_cases c6 : a1 = (rd l0 x8_1)
      ·rw [if_pos c6] at H
       have c6b0 : (a1 == (rd l0 x8_1)) = true := beq_iff_eq.mpr c6
       have c6b1 : (a1 != (rd l0 x8_1)) = false := bne_eq_false_iff_eq.mpr c6
       clear c6
       obtain rfl := Option.some.inj H
       have p205 : 0 ≤ (x8_1 : Int) := od (by first | (with_reducible assumption) | assumption)
       have q205 : x8_1 < (l0.length : Int) := od (by first | (with_reducible assumption) | assumption)
       obtain ⟨ad205, e205, hx205_0⟩ := Kd.at_int HR0.out x8_1 p205 q205
       cases e205
       replace p205 := eq_true p205
       replace q205 := eq_true q205
       go_wp2
       go_ret
       exact ⟨by first | rfl | (simp; done) | (simp [*]; done), by repeat (first | exact Drawn0.refl _ | apply Drawn0.step)⟩
      ·rw [if_neg c6] at H
       have c6b0 : (a1 == (rd l0 x8_1)) = false := beq_eq_false_iff_ne.mpr c6
       have c6b1 : (a1 != (rd l0 x8_1)) = true := bne_iff_ne.mpr c6
       have H' := aS H
       clear H
       have p205 : 0 ≤ (x8_1 : Int) := od (by first | (with_reducible assumption) | assumption)
       have q205 : x8_1 < (l0.length : Int) := od (by first | (with_reducible assumption) | assumption)
       obtain ⟨ad205, e205, hx205_0⟩ := Kd.at_int HR0.out x8_1 p205 q205
       cases e205
       replace p205 := eq_true p205
       replace q205 := eq_true q205
       go_wp2
       go_roundg k1
       case measure => have := HK1.out; omega
       case rel => exact ⟨(wrap64 (x8_1 + 1)), (by first | rfl | (simp; done) | simp [*]), H', ⟨by have := HK1.out; omega⟩, by repeat (first | exact Drawn0.refl _ | apply Drawn0.step)⟩
     ·rw [if_neg c5] at H
      exact absurd H (by simp)
    ·rw [if_neg c4] at H
     exact absurd H (by simp)
   ·rw [if_neg c3] at H
    have c3b0 : decide (x8_1 < (l0.length : Int)) = false := decide_eq_false c3
    clear c3
    obtain rfl := Option.some.inj H
    go_wp2
    go_ret
    exact ⟨by first | rfl | (simp; done) | (simp [*]; done), by repeat (first | exact Drawn0.refl _ | apply Drawn0.step)⟩

/-! ### slices_Contains_int_int: function 97 -/
def slices_Contains_int_int.f (k : Nat) (l0 : List Int) (a1 : Int) : Option (Bool) := (slices_Index_int_int.f k l0 a1).bind fun t206 => (some (decide (t206 ≥ 0)))
theorem slices_Contains_int_int.mono : ∀ a0 a1 k, LeO (slices_Contains_int_int.f k a0 a1) (slices_Contains_int_int.f (k + 1) a0 a1) := by
 intro a0 a1 k
 unfold slices_Contains_int_int.f
 repeat' first
  | (with_reducible exact slices_Index_int_int.mono _ _ _)
  | (with_reducible exact LeO.refl _)
  | (with_reducible exact LeO.none _)
  | (with_reducible refine LeO.ite ?_ ?_)
  | (with_reducible refine LeO.bind ?_ (fun _ => ?_))
  | exact slices_Index_int_int.mono _ _ _
  | exact LeO.none _
  | refine LeO.ite ?_ ?_
  | refine LeO.bind ?_ (fun _ => ?_)
set_option maxHeartbeats 8000000 in
set_option maxRecDepth 100000 in
theorem slices_Contains_int_int.calls (k : Nat) (A0 : Option Addr) (c0 : Nat) (l0 : List Int) (a1 : Int) (r : Bool) (w : World) (hr0 : Kd.C (Kd.int .i64) w A0 l0.length l0) (hc0 : l0.length ≤ c0) (h : slices_Contains_int_int.f k l0 a1 = some r) :
 Calls Try.prog 97 #[.slice A0 l0.length c0, .int .i64 a1] w fun e w' => e = .returned (.bool r) ∧ Drawn0 w w' := by
 have HR0 := aS hr0
 have HC0 := aS hc0
 clear hr0 hc0
 have H : ((slices_Index_int_int.f k l0 a1).bind fun t206 => (some (decide (t206 ≥ 0)))) = some r := h
 clear h
 replace H := Option.bind_eq_some_iff.mp H
 obtain ⟨t206, A30, H⟩ := H
 replace H : (some (decide (t206 ≥ 0))) = some r := H
 have A3 := aS A30
 clear A30
 obtain rfl := Option.some.inj H
 go_enter Try.func97, Try.ntmps97
 go_wp2_with (first | ((with_reducible refine gate_callee (f := 114) rfl ?_); refine goesL_ (some 7) rfl rfl Try.func114 (by kernel_rfl) rfl #[.slice A0 l0.length c0, .int .i64 a1] rfl (by (try simp only [List.map_toArray, List.map_cons, List.map_nil]); first | done | rfl | (simp only [List.length_drop, List.length_take]; rfl)) ?_; (with_reducible refine (slices_Index_int_int.calls k _ _ l0 a1 t206 _ ?side1 ?side2 A3.out).mono ?_); (case side1 => repeat (first | exact HR0.out | (with_reducible refine cA ?_ _) | (with_reducible refine cN ?_ _) | (with_reducible refine cD ?_))); (case side2 => exact HC0.out); rintro e w' ⟨rfl, ⟨nd, rfl⟩⟩; refine ⟨_, rfl, ?_⟩))
 go_ret
 exact ⟨by first | rfl | (simp; done) | (simp [*]; done), by repeat (first | exact Drawn0.refl _ | apply Drawn0.step)⟩

/-! ### active_Missing: function 67 -/
def active_Missing.l0 : Nat → List (S25) → List Int → Int → Option (Int)
 | 0, _, _, _ => none
 | k + 1, x0, x1, x5 => (active_Last.f k x0).bind fun t207 => (if x5 > t207 then (if 0 ≤ (wrap64 (x5 - 1)) then (if (wrap64 (x5 - 1)) < (x0.length : Int) then ((slices_Contains_int_int.f k x1 ((rd_T25 x0 (wrap64 (x5 - 1))).f0)).bind fun t209 => (if t209 = true then (some x5) else (active_Missing.l0 k x0 x1 (wrap64 (x5 - 1))))) else (none)) else (none)) else (some x5))
def active_Missing.f (k : Nat) (l0 : List (S25)) (l1 : List Int) : Option (Int) := active_Missing.l0 k l0 l1 (l0.length : Int)
theorem active_Missing.mono_l : ∀ k, (∀ y0 y1 y2, LeO (active_Missing.l0 k y0 y1 y2) (active_Missing.l0 (k + 1) y0 y1 y2))
 | 0 => fun _ _ _ r h => by simp [active_Missing.l0] at h
 | k + 1 => by
  have ih0 := active_Missing.mono_l k
  ·intro y0 y1 y2
   unfold active_Missing.l0
   repeat' first
   | (with_reducible exact ih0 _ _ _)
   | (with_reducible exact active_Last.mono _ _)
   | (with_reducible exact slices_Contains_int_int.mono _ _ _)
   | (with_reducible exact LeO.refl _)
   | (with_reducible exact LeO.none _)
   | (with_reducible refine LeO.ite ?_ ?_)
   | (with_reducible refine LeO.bind ?_ (fun _ => ?_))
   | exact ih0 _ _ _
   | exact active_Last.mono _ _
   | exact slices_Contains_int_int.mono _ _ _
   | exact LeO.none _
   | refine LeO.ite ?_ ?_
   | refine LeO.bind ?_ (fun _ => ?_)
theorem active_Missing.mono : ∀ a0 a1 k, LeO (active_Missing.f k a0 a1) (active_Missing.f (k + 1) a0 a1) := by
 intro a0 a1 k
 have ih0 := active_Missing.mono_l k
 unfold active_Missing.f
 repeat' first
  | (with_reducible exact ih0 _ _ _)
  | (with_reducible exact active_Last.mono _ _)
  | (with_reducible exact slices_Contains_int_int.mono _ _ _)
  | (with_reducible exact LeO.refl _)
  | (with_reducible exact LeO.none _)
  | (with_reducible refine LeO.ite ?_ ?_)
  | (with_reducible refine LeO.bind ?_ (fun _ => ?_))
  | exact ih0 _ _ _
  | exact active_Last.mono _ _
  | exact slices_Contains_int_int.mono _ _ _
  | exact LeO.none _
  | refine LeO.ite ?_ ?_
  | refine LeO.bind ?_ (fun _ => ?_)
set_option maxHeartbeats 8000000 in
set_option maxRecDepth 100000 in
theorem active_Missing.calls (k : Nat) (A0 : Option Addr) (c0 : Nat) (l0 : List (S25)) (A1 : Option Addr) (c1 : Nat) (l1 : List Int) (r : Int) (w : World) (hr0 : Kd.C k25 w A0 l0.length l0) (hc0 : l0.length ≤ c0) (hr1 : Kd.C (Kd.int .i64) w A1 l1.length l1) (hc1 : l1.length ≤ c1) (h : active_Missing.f k l0 l1 = some r) :
 Calls Try.prog 67 #[.slice A0 l0.length c0, .slice A1 l1.length c1] w fun e w' => e = .returned (.int .i64 r) ∧ Below w.heap.size w w' := by
 have HR0 := aS hr0
 have HC0 := aS hc0
 clear hr0 hc0
 have HR1 := aS hr1
 have HC1 := aS hc1
 clear hr1 hc1
 have HB := aS (Below.refl w.heap.size w)
 have H : (active_Missing.l0 k l0 l1 (l0.length : Int)) = some r := h
 clear h
 have H' := aS H
 clear H
 go_enter Try.func67, Try.ntmps67
 go_wp2
 go_loopg [5] k (fun kq v5 w' => ∃ (x5_1 : Int), v5 = .int .i64 x5_1 ∧ Aside0 (active_Missing.l0 kq l0 l1 x5_1 = some r) ∧ Aside0 (kq ≤ k) ∧ Aside0 (Below w.heap.size w w'))
 case atStart => exact ⟨((l0.length : Int)), (by first | rfl | (simp; done) | simp [*]), H', ⟨Nat.le_refl _⟩, ⟨by repeat (first | (with_reducible first | exact HB.out | apply bA | apply bN | apply bD) | exact HB.out)⟩⟩
 case round =>
  clear H'
  try clear c1
  try clear p2
  obtain ⟨x5_1, rfl, HA, HK1, HB⟩ := hrel
  cases gk with
  | zero => exact absurd HA.out (by simp [active_Missing.l0])
  | succ k1 =>
   have H := HA.out
   clear HA
   simp only [active_Missing.l0] at H
   replace H := Option.bind_eq_some_iff.mp H
   obtain ⟨t207, A30, H⟩ := H
   replace H : (if x5_1 > t207 then (if 0 ≤ (wrap64 (x5_1 - 1)) then (if (wrap64 (x5_1 - 1)) < (l0.length : Int) then ((slices_Contains_int_int.f k1 l1 ((rd_T25 l0 (wrap64 (x5_1 - 1))).f0)).bind fun t209 => (if t209 = true then (some x5_1) else (active_Missing.l0 k1 l0 l1 (wrap64 (x5_1 - 1))))) else (none)) else (none)) else (some x5_1)) = some r := H
   have A3 := aS A30
   clear A30
   by_cases c4 : x5_1 > t207
   ·rw [if_pos c4] at H
    have c4b0 : decide (t207 < x5_1) = true := decide_eq_true c4
    clear c4
    obtain ⟨ji5, hji5⟩ : ∃ j_ : Int, (wrap64 (x5_1 - 1)) = j_ := ⟨_, rfl⟩
    replace H : (if 0 ≤ (ji5) then (if (ji5) < (l0.length : Int) then ((slices_Contains_int_int.f k1 l1 ((rd_T25 l0 (ji5)).f0)).bind fun t209 => (if t209 = true then (some x5_1) else (active_Missing.l0 k1 l0 l1 ji5))) else (none)) else (none)) = some r := by first | (rw [hji5] at H; exact H) | (simp only [hji5] at H ⊢; exact H)
    (try rw [hji5] at A3)
    have hji5w : (IntKind.i64.wrap (x5_1 - 1)) = ji5 := (i64_w _).trans hji5
    by_cases c6 : 0 ≤ (ji5)
    ·rw [if_pos c6] at H
     have c6b0 : decide (0 ≤ (ji5)) = true := decide_eq_true c6
     clear c6
     by_cases c7 : (ji5) < (l0.length : Int)
     ·rw [if_pos c7] at H
      have c7b0 : decide ((ji5) < (l0.length : Int)) = true := decide_eq_true c7
      clear c7
      replace H := Option.bind_eq_some_iff.mp H
      obtain ⟨t209, A80, H⟩ := H
      replace H : (if t209 = true then (some x5_1) else (active_Missing.l0 k1 l0 l1 ji5)) = some r := H
      have A8 := aS A80
      clear A80
      by_cases c9 : t209 = true
      ·subst c9
       have H1 : (some x5_1) = some r := by rw [if_pos rfl] at H; exact H
       clear H
       have H := H1
       clear H1
       obtain rfl := Option.some.inj H
       go_wp2_with (first | ((with_reducible refine gate_callee (f := 86) rfl ?_); refine goesL_ (some 10) rfl rfl Try.func86 (by kernel_rfl) rfl #[.slice A0 l0.length c0] rfl (by (try simp only [List.map_toArray, List.map_cons, List.map_nil]); first | done | rfl | (simp only [List.length_drop, List.length_take]; rfl)) ?_; (with_reducible refine (active_Last.calls k1 _ _ l0 t207 _ ?side1 ?side2 A3.out).mono ?_); (case side1 => repeat (first | exact (Kd.C_below HR0.out HB.out) | (with_reducible refine cA ?_ _) | (with_reducible refine cN ?_ _) | (with_reducible refine cD ?_))); (case side2 => exact HC0.out); rintro e w10 ⟨rfl, hb⟩; refine ⟨_, rfl, ?_⟩; have n0_ := aS (below_step (by repeat (first | (with_reducible first | exact HB.out | apply bA | apply bN | apply bD) | exact HB.out)) hb); clear HB; have HB := n0_; clear n0_; (try clear hb); (try clear hb2); (try clear hk); (try clear hi); have p208 : 0 ≤ ((ji5) : Int) := od (by first | (with_reducible assumption) | assumption); have q208 : (ji5) < (l0.length : Int) := od (by first | (with_reducible assumption) | assumption); obtain ⟨ad208, A208_2, c208_2, e208, hx208_0, hx208_1, hx208_2, hl208_2, hi208_2⟩ := at_T25 HR0.out (ji5) p208 q208; cases e208; replace hx208_0 := (HB.out.cell (World.block_lt_of_cell? w _ hx208_0)).trans hx208_0; replace hx208_1 := (HB.out.cell (World.block_lt_of_cell? w _ hx208_1)).trans hx208_1; replace hx208_2 := (HB.out.cell (World.block_lt_of_cell? w _ hx208_2)).trans hx208_2; have HR208_2 := aS hi208_2; have HC208_2 := aS hl208_2; clear hi208_2 hl208_2; replace p208 := eq_true p208; replace q208 := eq_true q208) | (go_at_call 97; (with_reducible refine (slices_Contains_int_int.calls k1 _ _ l1 ((rd_T25 l0 (ji5)).f0) true _ ?side1 ?side2 A8.out).mono ?_); (case side1 => repeat (first | exact (Kd.C_below HR1.out HB.out) | (with_reducible refine cA ?_ _) | (with_reducible refine cN ?_ _) | (with_reducible refine cD ?_))); (case side2 => exact HC1.out); rintro e w' ⟨rfl, ⟨nd, rfl⟩⟩))
       go_ret
       exact ⟨by first | rfl | (simp [errW_none, errW_some] <;> rfl) | (simp only [← hji5]; first | rfl | (simp [errW_none, errW_some] <;> rfl)) | (simp [*, errW_none, errW_some] <;> rfl), by repeat (first | (with_reducible first | exact HB.out | apply bA | apply bN | apply bD) | exact HB.out)⟩
      ·replace c9 := Bool.eq_false_iff.mpr c9
       subst c9
       have H1 : (active_Missing.l0 k1 l0 l1 ji5) = some r := by rw [if_neg (show ¬ (false = true) by decide)] at H; exact H
       clear H
       have H := H1
       clear H1
       have H' := aS H
       clear H
       go_wp2_with (first | ((with_reducible refine gate_callee (f := 86) rfl ?_); refine goesL_ (some 10) rfl rfl Try.func86 (by kernel_rfl) rfl #[.slice A0 l0.length c0] rfl (by (try simp only [List.map_toArray, List.map_cons, List.map_nil]); first | done | rfl | (simp only [List.length_drop, List.length_take]; rfl)) ?_; (with_reducible refine (active_Last.calls k1 _ _ l0 t207 _ ?side1 ?side2 A3.out).mono ?_); (case side1 => repeat (first | exact (Kd.C_below HR0.out HB.out) | (with_reducible refine cA ?_ _) | (with_reducible refine cN ?_ _) | (with_reducible refine cD ?_))); (case side2 => exact HC0.out); rintro e w11 ⟨rfl, hb⟩; refine ⟨_, rfl, ?_⟩; have n0_ := aS (below_step (by repeat (first | (with_reducible first | exact HB.out | apply bA | apply bN | apply bD) | exact HB.out)) hb); clear HB; have HB := n0_; clear n0_; (try clear hb); (try clear hb2); (try clear hk); (try clear hi); have p208 : 0 ≤ ((ji5) : Int) := od (by first | (with_reducible assumption) | assumption); have q208 : (ji5) < (l0.length : Int) := od (by first | (with_reducible assumption) | assumption); obtain ⟨ad208, A208_2, c208_2, e208, hx208_0, hx208_1, hx208_2, hl208_2, hi208_2⟩ := at_T25 HR0.out (ji5) p208 q208; cases e208; replace hx208_0 := (HB.out.cell (World.block_lt_of_cell? w _ hx208_0)).trans hx208_0; replace hx208_1 := (HB.out.cell (World.block_lt_of_cell? w _ hx208_1)).trans hx208_1; replace hx208_2 := (HB.out.cell (World.block_lt_of_cell? w _ hx208_2)).trans hx208_2; have HR208_2 := aS hi208_2; have HC208_2 := aS hl208_2; clear hi208_2 hl208_2; replace p208 := eq_true p208; replace q208 := eq_true q208) | (go_at_call 97; (with_reducible refine (slices_Contains_int_int.calls k1 _ _ l1 ((rd_T25 l0 (ji5)).f0) false _ ?side1 ?side2 A8.out).mono ?_); (case side1 => repeat (first | exact (Kd.C_below HR1.out HB.out) | (with_reducible refine cA ?_ _) | (with_reducible refine cN ?_ _) | (with_reducible refine cD ?_))); (case side2 => exact HC1.out); rintro e w' ⟨rfl, ⟨nd, rfl⟩⟩))
       go_roundg k1
       case measure => have := HK1.out; omega
       case rel => exact ⟨(ji5), (by first | rfl | (simp; done) | (simp only [← hji5] <;> (first | rfl | simp)) | (simp [*]; done)), H', ⟨by have := HK1.out; omega⟩, ⟨by repeat (first | (with_reducible first | exact HB.out | apply bA | apply bN | apply bD) | exact HB.out)⟩⟩
     ·rw [if_neg c7] at H
      exact absurd H (by simp)
    ·rw [if_neg c6] at H
     exact absurd H (by simp)
   ·rw [if_neg c4] at H
    have c4b0 : decide (t207 < x5_1) = false := decide_eq_false c4
    clear c4
    obtain rfl := Option.some.inj H
    go_wp2_with (first | ((with_reducible refine gate_callee (f := 86) rfl ?_); refine goesL_ (some 10) rfl rfl Try.func86 (by kernel_rfl) rfl #[.slice A0 l0.length c0] rfl (by (try simp only [List.map_toArray, List.map_cons, List.map_nil]); first | done | rfl | (simp only [List.length_drop, List.length_take]; rfl)) ?_; (with_reducible refine (active_Last.calls k1 _ _ l0 t207 _ ?side1 ?side2 A3.out).mono ?_); (case side1 => repeat (first | exact (Kd.C_below HR0.out HB.out) | (with_reducible refine cA ?_ _) | (with_reducible refine cN ?_ _) | (with_reducible refine cD ?_))); (case side2 => exact HC0.out); rintro e w12 ⟨rfl, hb⟩; refine ⟨_, rfl, ?_⟩; have n0_ := aS (below_step (by repeat (first | (with_reducible first | exact HB.out | apply bA | apply bN | apply bD) | exact HB.out)) hb); clear HB; have HB := n0_; clear n0_; (try clear hb); (try clear hb2); (try clear hk); (try clear hi)))
    go_ret
    exact ⟨by first | rfl | (simp [errW_none, errW_some] <;> rfl) | (simp [*, errW_none, errW_some] <;> rfl), by repeat (first | (with_reducible first | exact HB.out | apply bA | apply bN | apply bD) | exact HB.out)⟩

/-! ### active_Again: function 23 -/
def active_Again.l0 : Nat → List (S25) → List Int → Int → Option (List Int × Int)
 | 0, _, _, _ => none
 | k + 1, x0, x7, x8 => if x8 < (x0.length : Int) then (if x7.length < 17592186044416 then (active_Again.l0 k x0 (x7 ++ [x8]) (wrap64 (x8 + 1))) else (none)) else (some (x7, 0))
def active_Again.f (k : Nat) (l0 : List (S25)) (l1 : List Int) : Option (List Int × Int) := (active_Check.f l0).bind fun t210 => (if t210 = 0 then ((active_Missing.f k l0 l1).bind fun t211 => (active_Again.l0 k l0 ([] : List Int) t211)) else (some (([] : List Int), t210)))
theorem active_Again.mono_l : ∀ k, (∀ y0 y1 y2, LeO (active_Again.l0 k y0 y1 y2) (active_Again.l0 (k + 1) y0 y1 y2))
 | 0 => fun _ _ _ r h => by simp [active_Again.l0] at h
 | k + 1 => by
  have ih0 := active_Again.mono_l k
  ·intro y0 y1 y2
   unfold active_Again.l0
   repeat' first
   | (with_reducible exact ih0 _ _ _)
   | (with_reducible exact active_Missing.mono _ _ _)
   | (with_reducible exact LeO.refl _)
   | (with_reducible exact LeO.none _)
   | (with_reducible refine LeO.ite ?_ ?_)
   | (with_reducible refine LeO.bind ?_ (fun _ => ?_))
   | exact ih0 _ _ _
   | exact active_Missing.mono _ _ _
   | exact LeO.none _
   | refine LeO.ite ?_ ?_
   | refine LeO.bind ?_ (fun _ => ?_)
theorem active_Again.mono : ∀ a0 a1 k, LeO (active_Again.f k a0 a1) (active_Again.f (k + 1) a0 a1) := by
 intro a0 a1 k
 have ih0 := active_Again.mono_l k
 unfold active_Again.f
 repeat' first
  | (with_reducible exact ih0 _ _ _)
  | (with_reducible exact active_Missing.mono _ _ _)
  | (with_reducible exact LeO.refl _)
  | (with_reducible exact LeO.none _)
  | (with_reducible refine LeO.ite ?_ ?_)
  | (with_reducible refine LeO.bind ?_ (fun _ => ?_))
  | exact ih0 _ _ _
  | exact active_Missing.mono _ _ _
  | exact LeO.none _
  | refine LeO.ite ?_ ?_
  | refine LeO.bind ?_ (fun _ => ?_)
set_option maxHeartbeats 8000000 in
set_option maxRecDepth 100000 in
theorem active_Again.calls (k : Nat) (A0 : Option Addr) (c0 : Nat) (l0 : List (S25)) (A1 : Option Addr) (c1 : Nat) (l1 : List Int) (r1 : List Int) (r2 : Int) (w : World) (hr0 : Kd.C k25 w A0 l0.length l0) (hc0 : l0.length ≤ c0) (hr1 : Kd.C (Kd.int .i64) w A1 l1.length l1) (hc1 : l1.length ≤ c1) (h : active_Again.f k l0 l1 = some (r1, r2)) :
 Calls Try.prog 23 #[.slice A0 l0.length c0, .slice A1 l1.length c1] w fun e w' => ∃ v0_ : Value, e = .returned (.tuple #[v0_, .int .i64 r2]) ∧ Kd.R (Kd.int .i64) 3 w' w.heap.size (fun _ => True) v0_ r1 ∧ Below w.heap.size w w' := by
 have HR0 := aS hr0
 have HC0 := aS hc0
 clear hr0 hc0
 have HR1 := aS hr1
 have HC1 := aS hc1
 clear hr1 hc1
 have HB := aS (Below.refl w.heap.size w)
 have H : ((active_Check.f l0).bind fun t210 => (if t210 = 0 then ((active_Missing.f k l0 l1).bind fun t211 => (active_Again.l0 k l0 ([] : List Int) t211)) else (some (([] : List Int), t210)))) = some (r1, r2) := h
 clear h
 replace H := Option.bind_eq_some_iff.mp H
 obtain ⟨t210, A30, H⟩ := H
 replace H : (if t210 = 0 then ((active_Missing.f k l0 l1).bind fun t211 => (active_Again.l0 k l0 ([] : List Int) t211)) else (some (([] : List Int), t210))) = some (r1, r2) := H
 have A3 := aS A30
 clear A30
 by_cases c4 : t210 = 0
 ·rw [if_pos c4] at H
  have c4b0 : (t210 == 0) = true := beq_iff_eq.mpr c4
  have c4b1 : (t210 != 0) = false := bne_eq_false_iff_eq.mpr c4
  clear c4
  replace H := Option.bind_eq_some_iff.mp H
  obtain ⟨t211, A50, H⟩ := H
  replace H : (active_Again.l0 k l0 ([] : List Int) t211) = some (r1, r2) := H
  have A5 := aS A50
  clear A50
  have H' := aS H
  clear H
  go_enter Try.func23, Try.ntmps23
  go_wp2_with (first | ((with_reducible refine gate_callee (f := 16) rfl ?_); refine goesL_ (some 10) rfl rfl Try.func16 (by kernel_rfl) rfl #[.slice A0 l0.length c0] rfl (by (try simp only [List.map_toArray, List.map_cons, List.map_nil]); first | done | rfl | (simp only [List.length_drop, List.length_take]; rfl)) ?_; (with_reducible refine (active_Check.calls _ _ l0 t210 _ ?side1 ?side2 A3.out).mono ?_); (case side1 => repeat (first | exact HR0.out | (with_reducible refine cA ?_ _) | (with_reducible refine cN ?_ _) | (with_reducible refine cD ?_))); (case side2 => exact HC0.out); rintro e w6 ⟨rfl, hb⟩; refine ⟨_, rfl, ?_⟩; have n0_ := aS (below_step (by repeat (first | (with_reducible first | exact HB.out | apply bA | apply bN | apply bD) | exact HB.out)) hb); clear HB; have HB := n0_; clear n0_; (try clear hb); (try clear hb2); (try clear hk); (try clear hi)) | ((with_reducible refine gate_callee (f := 67) rfl ?_); refine goesL_ (some 16) rfl rfl Try.func67 (by kernel_rfl) rfl #[.slice A0 l0.length c0, .slice A1 l1.length c1] rfl (by (try simp only [List.map_toArray, List.map_cons, List.map_nil]); first | done | rfl | (simp only [List.length_drop, List.length_take]; rfl)) ?_; (with_reducible refine (active_Missing.calls k _ _ l0 _ _ l1 t211 _ ?side1 ?side2 ?side3 ?side4 A5.out).mono ?_); (case side1 => repeat (first | exact (Kd.C_below HR0.out HB.out) | (with_reducible refine cA ?_ _) | (with_reducible refine cN ?_ _) | (with_reducible refine cD ?_))); (case side2 => exact HC0.out); (case side3 => repeat (first | exact (Kd.C_below HR1.out HB.out) | (with_reducible refine cA ?_ _) | (with_reducible refine cN ?_ _) | (with_reducible refine cD ?_))); (case side4 => exact HC1.out); rintro e w7 ⟨rfl, hb⟩; refine ⟨_, rfl, ?_⟩; have n0_ := aS (below_step (by repeat (first | (with_reducible first | exact HB.out | apply bA | apply bN | apply bD) | exact HB.out)) hb); clear HB; have HB := n0_; clear n0_; (try clear hb); (try clear hb2); (try clear hk); (try clear hi)))
  go_loopg [7, 8] k (fun kq v7 v8 w' => ∃ (x7_1 : List Int) (x8_1 : Int), v8 = .int .i64 x8_1 ∧ Aside0 (active_Again.l0 kq l0 x7_1 x8_1 = some (r1, r2)) ∧ Aside0 (kq ≤ k) ∧ Aside0 (Kd.R (Kd.int .i64) 3 w' w.heap.size (fun _ => True) v7 x7_1) ∧ Aside0 (Below w.heap.size w w'))
  case atStart => exact ⟨(([] : List Int)), (t211), (by first | rfl | (simp; done) | simp [*]), H', ⟨Nat.le_refl _⟩, ⟨by first | exact Kd.R_nil _ _ _ _ _ | exact Kd.N_nil _ _ _ _ _ | exact Kd.V_nil _ _ _ _ _ | exact Kd.Q_nil _ _ _ _ _ | exact Kd.S_nil _ _ _ _ _⟩, ⟨by repeat (first | (with_reducible first | exact HB.out | apply bA | apply bN | apply bD) | exact HB.out)⟩⟩
  case round =>
   clear H'
   try clear c1
   try clear c2
   try clear p2
   try clear c4
   try clear c4b0
   try clear c4b1
   try clear c6
   obtain ⟨x7_1, x8_1, rfl, HA, HK1, HO_7, HB⟩ := hrel
   cases gk with
   | zero => exact absurd HA.out (by simp [active_Again.l0])
   | succ k1 =>
    have H := HA.out
    clear HA
    simp only [active_Again.l0] at H
    by_cases c8 : x8_1 < (l0.length : Int)
    ·rw [if_pos c8] at H
     have c8b0 : decide (x8_1 < (l0.length : Int)) = true := decide_eq_true c8
     clear c8
     by_cases c9 : x7_1.length < 17592186044416
     ·rw [if_pos c9] at H
      have LMc9 := aS c9
      clear c9
      obtain ⟨y212, hy212⟩ : ∃ y_ : List Int, y_ = (x7_1 ++ [x8_1]) := ⟨_, rfl⟩
      replace H : (active_Again.l0 k1 l0 y212 (wrap64 (x8_1 + 1))) = some (r1, r2) := by first | (rw [hy212]; with_reducible exact H) | (have H2_ := (Option.bind_some _ _).symm.trans H; rw [hy212]; with_reducible exact H2_) | (have H2_ := (Option.bind_some _ _).symm.trans H; with_reducible exact H2_) | with_reducible exact H | (rw [hy212]; exact H) | exact H
      have Ny212 := aS hy212
      clear hy212
      have H' := aS H
      clear H
      go_wp2_with (first | ((with_reducible refine gate_builtin (b := .append) (xs := #[.tmp 23, .tmp 25]) rfl ?_); at_builtin; refine Kd.R_append (Kd.int .i64) (w0 := w) w.heap.size rfl (.tmp 23) (.tmp 25) 39 3 (.int .i64 0) 8 rfl Try.underlying39 info3 rfl (by decide) (by omega) u7 x7_1 x8_1 [.int .i64 x8_1] (fun _ => True) (fun _ => False) rfl rfl ?aP (fun _ hk => hk.elim) ?aF ?aO ?aB ?aS ?aL ?_; (case aP => exact rfl); (case aB => exact (by repeat (first | (with_reducible first | exact HB.out | apply bA | apply bN | apply bD) | exact HB.out))); (case aF => exact (fun _ _ => trivial)); (case aO => exact (by (with_reducible repeat (first | apply rA | apply rN | apply rD)); exact HO_7.out)); (case aS => exact (below_size (by repeat (first | (with_reducible first | exact HB.out | apply bA | apply bN | apply bD) | exact HB.out)))); (case aL => have := LMc9.out; omega); intro v213 w10 ho hb hg hat; rw [← Ny212.out] at ho; have n0_ := aS (hb); have n1_ := aS (ho); clear HB; clear HO_7; have HB := n0_; have HO214 := n1_; clear n0_ n1_; clear ho hb hg hat))
      go_roundg k1
      case measure => have := HK1.out; omega
      case rel => exact ⟨(y212), (wrap64 (x8_1 + 1)), (by first | rfl | (simp; done) | simp [*]), H', ⟨by have := HK1.out; omega⟩, ⟨by (with_reducible repeat (first | apply rA | apply rN | apply rD)); exact HO214.out⟩, ⟨by repeat (first | (with_reducible first | exact HB.out | apply bA | apply bN | apply bD) | exact HB.out)⟩⟩
     ·rw [if_neg c9] at H
      exact absurd H (by simp)
    ·rw [if_neg c8] at H
     have c8b0 : decide (x8_1 < (l0.length : Int)) = false := decide_eq_false c8
     clear c8
     simp only [Option.some.injEq, Prod.mk.injEq] at H
     obtain ⟨rfl, rfl⟩ := H
     go_wp2
     go_ret2
     exact ⟨_, by first | rfl | (simp [errW_none, errW_some] <;> rfl) | (simp [*, errW_none, errW_some] <;> rfl), by (with_reducible repeat (first | apply rA | apply rN | apply rD)); exact HO_7.out, by repeat (first | (with_reducible first | exact HB.out | apply bA | apply bN | apply bD) | exact HB.out)⟩
 ·rw [if_neg c4] at H
  have c4b0 : (t210 == 0) = false := beq_eq_false_iff_ne.mpr c4
  have c4b1 : (t210 != 0) = true := bne_iff_ne.mpr c4
  simp only [Option.some.injEq, Prod.mk.injEq] at H
  obtain ⟨rfl, rfl⟩ := H
  go_enter Try.func23, Try.ntmps23
  go_wp2_with (first | ((with_reducible refine gate_callee (f := 16) rfl ?_); refine goesL_ (some 10) rfl rfl Try.func16 (by kernel_rfl) rfl #[.slice A0 l0.length c0] rfl (by (try simp only [List.map_toArray, List.map_cons, List.map_nil]); first | done | rfl | (simp only [List.length_drop, List.length_take]; rfl)) ?_; (with_reducible refine (active_Check.calls _ _ l0 t210 _ ?side1 ?side2 A3.out).mono ?_); (case side1 => repeat (first | exact HR0.out | (with_reducible refine cA ?_ _) | (with_reducible refine cN ?_ _) | (with_reducible refine cD ?_))); (case side2 => exact HC0.out); rintro e w11 ⟨rfl, hb⟩; refine ⟨_, rfl, ?_⟩; have n0_ := aS (below_step (by repeat (first | (with_reducible first | exact HB.out | apply bA | apply bN | apply bD) | exact HB.out)) hb); clear HB; have HB := n0_; clear n0_; (try clear hb); (try clear hb2); (try clear hk); (try clear hi)))
  go_ret2
  exact ⟨_, by first | rfl | (simp [errW_none, errW_some] <;> rfl) | (simp [*, errW_none, errW_some] <;> rfl), by first | exact Kd.R_nil _ _ _ _ _ | exact Kd.N_nil _ _ _ _ _ | exact Kd.V_nil _ _ _ _ _ | exact Kd.Q_nil _ _ _ _ _ | exact Kd.S_nil _ _ _ _ _, by repeat (first | (with_reducible first | exact HB.out | apply bA | apply bN | apply bD) | exact HB.out)⟩

/-! ### clerestoryref1_SameInts: function 26 -/
def clerestoryref1_SameInts.l0 : Nat → List Int → List Int → Int → Option (Bool)
 | 0, _, _, _ => none
 | k + 1, x0, x1, x5 => if x5 < (x0.length : Int) then (if 0 ≤ x5 then (if x5 < (x1.length : Int) then (if (rd x0 x5) = (rd x1 x5) then (clerestoryref1_SameInts.l0 k x0 x1 (wrap64 (x5 + 1))) else (some false)) else (none)) else (none)) else (some true)
def clerestoryref1_SameInts.f (k : Nat) (l0 : List Int) (l1 : List Int) : Option (Bool) := if (l0.length : Int) = (l1.length : Int) then (clerestoryref1_SameInts.l0 k l0 l1 0) else (some false)
theorem clerestoryref1_SameInts.mono_l : ∀ k, (∀ y0 y1 y2, LeO (clerestoryref1_SameInts.l0 k y0 y1 y2) (clerestoryref1_SameInts.l0 (k + 1) y0 y1 y2))
 | 0 => fun _ _ _ r h => by simp [clerestoryref1_SameInts.l0] at h
 | k + 1 => by
  have ih0 := clerestoryref1_SameInts.mono_l k
  ·intro y0 y1 y2
   unfold clerestoryref1_SameInts.l0
   repeat' first
   | (with_reducible exact ih0 _ _ _)
   | (with_reducible exact LeO.refl _)
   | (with_reducible exact LeO.none _)
   | (with_reducible refine LeO.ite ?_ ?_)
   | (with_reducible refine LeO.bind ?_ (fun _ => ?_))
   | exact ih0 _ _ _
   | exact LeO.none _
   | refine LeO.ite ?_ ?_
   | refine LeO.bind ?_ (fun _ => ?_)
theorem clerestoryref1_SameInts.mono : ∀ a0 a1 k, LeO (clerestoryref1_SameInts.f k a0 a1) (clerestoryref1_SameInts.f (k + 1) a0 a1) := by
 intro a0 a1 k
 have ih0 := clerestoryref1_SameInts.mono_l k
 unfold clerestoryref1_SameInts.f
 repeat' first
  | (with_reducible exact ih0 _ _ _)
  | (with_reducible exact LeO.refl _)
  | (with_reducible exact LeO.none _)
  | (with_reducible refine LeO.ite ?_ ?_)
  | (with_reducible refine LeO.bind ?_ (fun _ => ?_))
  | exact ih0 _ _ _
  | exact LeO.none _
  | refine LeO.ite ?_ ?_
  | refine LeO.bind ?_ (fun _ => ?_)
set_option maxHeartbeats 8000000 in
set_option maxRecDepth 100000 in
theorem clerestoryref1_SameInts.calls (k : Nat) (A0 : Option Addr) (c0 : Nat) (l0 : List Int) (A1 : Option Addr) (c1 : Nat) (l1 : List Int) (r : Bool) (w : World) (hr0 : Kd.C (Kd.int .i64) w A0 l0.length l0) (hc0 : l0.length ≤ c0) (hr1 : Kd.C (Kd.int .i64) w A1 l1.length l1) (hc1 : l1.length ≤ c1) (h : clerestoryref1_SameInts.f k l0 l1 = some r) :
 Calls Try.prog 26 #[.slice A0 l0.length c0, .slice A1 l1.length c1] w fun e w' => e = .returned (.bool r) ∧ Drawn0 w w' := by
 have HR0 := aS hr0
 have HC0 := aS hc0
 clear hr0 hc0
 have HR1 := aS hr1
 have HC1 := aS hc1
 clear hr1 hc1
 have H : (if (l0.length : Int) = (l1.length : Int) then (clerestoryref1_SameInts.l0 k l0 l1 0) else (some false)) = some r := h
 clear h
 by_cases c3 : (l0.length : Int) = (l1.length : Int)
 ·rw [if_pos c3] at H
  have c3b0 : ((l0.length : Int) == (l1.length : Int)) = true := beq_iff_eq.mpr c3
  have c3b1 : ((l0.length : Int) != (l1.length : Int)) = false := bne_eq_false_iff_eq.mpr c3
  have c3b2 : (l0.length == l1.length) = true := by first | simpa using c3 | (simp at c3 ⊢; omega)
  clear c3
  have H' := aS H
  clear H
  go_enter Try.func26, Try.ntmps26
  go_wp2
  repeat (go_quiet (fail); try go_wp2)
  go_loopg [5] k (fun kq v5 w' => ∃ (x5_1 : Int), v5 = .int .i64 x5_1 ∧ Aside0 (clerestoryref1_SameInts.l0 kq l0 l1 x5_1 = some r) ∧ Aside0 (kq ≤ k) ∧ Drawn0 w w')
  case atStart => exact ⟨(0), (by first | rfl | (simp; done) | simp [*]), H', ⟨Nat.le_refl _⟩, by repeat (first | exact Drawn0.refl _ | apply Drawn0.step)⟩
  case round =>
   clear H'
   try clear c1
   try clear c2
   try clear p2
   try clear c3
   try clear c3b0
   try clear c3b1
   try clear c3b2
   obtain ⟨x5_1, rfl, HA, HK1, ⟨m1, rfl⟩⟩ := hrel
   cases gk with
   | zero => exact absurd HA.out (by simp [clerestoryref1_SameInts.l0])
   | succ k1 =>
    have H := HA.out
    clear HA
    simp only [clerestoryref1_SameInts.l0] at H
    by_cases c4 : x5_1 < (l0.length : Int)
    ·rw [if_pos c4] at H
     have c4b0 : decide (x5_1 < (l0.length : Int)) = true := decide_eq_true c4
     clear c4
     by_cases c5 : 0 ≤ x5_1
     ·rw [if_pos c5] at H
      have c5b0 : decide (0 ≤ x5_1) = true := decide_eq_true c5
      clear c5
      by_cases c6 : x5_1 < (l1.length : Int)
      ·rw [if_pos c6] at H
       have c6b0 : decide (x5_1 < (l1.length : Int)) = true := decide_eq_true c6
       clear c6
       by_cases c7 : (rd l0 x5_1) = (rd l1 x5_1)
       ·rw [if_pos c7] at H
        have c7b0 : ((rd l0 x5_1) == (rd l1 x5_1)) = true := beq_iff_eq.mpr c7
        have c7b1 : ((rd l0 x5_1) != (rd l1 x5_1)) = false := bne_eq_false_iff_eq.mpr c7
        clear c7
        have H' := aS H
        clear H
        have p215 : 0 ≤ (x5_1 : Int) := od (by first | (with_reducible assumption) | assumption)
        have q215 : x5_1 < (l0.length : Int) := od (by first | (with_reducible assumption) | assumption)
        obtain ⟨ad215, e215, hx215_0⟩ := Kd.at_int HR0.out x5_1 p215 q215
        cases e215
        replace p215 := eq_true p215
        replace q215 := eq_true q215
        have p216 : 0 ≤ (x5_1 : Int) := od (by first | (with_reducible assumption) | assumption)
        have q216 : x5_1 < (l1.length : Int) := od (by first | (with_reducible assumption) | assumption)
        obtain ⟨ad216, e216, hx216_0⟩ := Kd.at_int HR1.out x5_1 p216 q216
        cases e216
        replace p216 := eq_true p216
        replace q216 := eq_true q216
        go_wp2
        repeat (go_quiet (fail); try go_wp2)
        go_roundg k1
        case measure => have := HK1.out; omega
        case rel => exact ⟨(wrap64 (x5_1 + 1)), (by first | rfl | (simp; done) | simp [*]), H', ⟨by have := HK1.out; omega⟩, by repeat (first | exact Drawn0.refl _ | apply Drawn0.step)⟩
       ·rw [if_neg c7] at H
        have c7b0 : ((rd l0 x5_1) == (rd l1 x5_1)) = false := beq_eq_false_iff_ne.mpr c7
        have c7b1 : ((rd l0 x5_1) != (rd l1 x5_1)) = true := bne_iff_ne.mpr c7
        obtain rfl := Option.some.inj H
        have p215 : 0 ≤ (x5_1 : Int) := od (by first | (with_reducible assumption) | assumption)
        have q215 : x5_1 < (l0.length : Int) := od (by first | (with_reducible assumption) | assumption)
        obtain ⟨ad215, e215, hx215_0⟩ := Kd.at_int HR0.out x5_1 p215 q215
        cases e215
        replace p215 := eq_true p215
        replace q215 := eq_true q215
        have p216 : 0 ≤ (x5_1 : Int) := od (by first | (with_reducible assumption) | assumption)
        have q216 : x5_1 < (l1.length : Int) := od (by first | (with_reducible assumption) | assumption)
        obtain ⟨ad216, e216, hx216_0⟩ := Kd.at_int HR1.out x5_1 p216 q216
        cases e216
        replace p216 := eq_true p216
        replace q216 := eq_true q216
        go_wp2
        repeat (go_quiet (fail); try go_wp2)
        go_ret
        exact ⟨by first | rfl | (simp; done) | (simp [*]; done), by repeat (first | exact Drawn0.refl _ | apply Drawn0.step)⟩
      ·rw [if_neg c6] at H
       exact absurd H (by simp)
     ·rw [if_neg c5] at H
      exact absurd H (by simp)
    ·rw [if_neg c4] at H
     have c4b0 : decide (x5_1 < (l0.length : Int)) = false := decide_eq_false c4
     clear c4
     obtain rfl := Option.some.inj H
     go_wp2
     repeat (go_quiet (fail); try go_wp2)
     go_ret
     exact ⟨by first | rfl | (simp; done) | (simp [*]; done), by repeat (first | exact Drawn0.refl _ | apply Drawn0.step)⟩
 ·rw [if_neg c3] at H
  have c3b0 : ((l0.length : Int) == (l1.length : Int)) = false := beq_eq_false_iff_ne.mpr c3
  have c3b1 : ((l0.length : Int) != (l1.length : Int)) = true := bne_iff_ne.mpr c3
  have c3b2 : (l0.length == l1.length) = false := by first | simpa using c3 | (simp at c3 ⊢; omega)
  obtain rfl := Option.some.inj H
  go_enter Try.func26, Try.ntmps26
  go_wp2
  repeat (go_quiet (fail); try go_wp2)
  go_ret
  exact ⟨by first | rfl | (simp; done) | (simp [*]; done), by repeat (first | exact Drawn0.refl _ | apply Drawn0.step)⟩

/-! ### clerestorylaw1_activeBegun: function 15 -/
def clerestorylaw1_activeBegun.f (k : Nat)  : Option (Bool) := (active_Push.f k (([(⟨1, (⟨#[98]⟩ : ByteArray), ([] : List (S99))⟩ : S25), (⟨1, (⟨#[98]⟩ : ByteArray), ([] : List (S99))⟩ : S25), (⟨1, (⟨#[98]⟩ : ByteArray), ([] : List (S99))⟩ : S25)] : List (S25))) 4 (⟨#[98]⟩ : ByteArray) ([] : List (S99))).bind fun bt221 => ((active_Again.f k (([(⟨1, (⟨#[98]⟩ : ByteArray), ([] : List (S99))⟩ : S25), (⟨2, (⟨#[105]⟩ : ByteArray), ([] : List (S99))⟩ : S25)] : List (S25))) (([1] : List Int))).bind fun bt231 => (if bt221.2 = 0 then (if (bt221.1.length : Int) = 3 then (if 2 < (bt221.1.length : Int) then (if ((rd_T25 bt221.1 2).f0) = 4 then (if bt231.2 = 0 then ((clerestoryref1_SameInts.f k bt231.1 (([1] : List Int))).bind fun t239 => (some t239)) else (some false)) else (some false)) else (none)) else (some false)) else (some false)))
theorem clerestorylaw1_activeBegun.mono : ∀ k, LeO (clerestorylaw1_activeBegun.f k ) (clerestorylaw1_activeBegun.f (k + 1) ) := by
 intro  k
 unfold clerestorylaw1_activeBegun.f
 repeat' first
  | (with_reducible exact active_Again.mono _ _ _)
  | (with_reducible exact active_Push.mono _ _ _ _ _)
  | (with_reducible exact clerestoryref1_SameInts.mono _ _ _)
  | (with_reducible exact LeO.refl _)
  | (with_reducible exact LeO.none _)
  | (with_reducible refine LeO.ite ?_ ?_)
  | (with_reducible refine LeO.bind ?_ (fun _ => ?_))
  | exact active_Again.mono _ _ _
  | exact active_Push.mono _ _ _ _ _
  | exact clerestoryref1_SameInts.mono _ _ _
  | exact LeO.none _
  | refine LeO.ite ?_ ?_
  | refine LeO.bind ?_ (fun _ => ?_)
set_option maxHeartbeats 8000000 in
set_option maxRecDepth 100000 in
theorem clerestorylaw1_activeBegun.calls (k : Nat)  (r : Bool) (w : World) (h : clerestorylaw1_activeBegun.f k  = some r) :
 Calls Try.prog 15 #[] w fun e w' => e = .returned (.bool r) ∧ Below w.heap.size w w' := by
 have hu25 := Try.underlying25
 have HB := aS (Below.refl w.heap.size w)
 have H : ((active_Push.f k (([(⟨1, (⟨#[98]⟩ : ByteArray), ([] : List (S99))⟩ : S25), (⟨1, (⟨#[98]⟩ : ByteArray), ([] : List (S99))⟩ : S25), (⟨1, (⟨#[98]⟩ : ByteArray), ([] : List (S99))⟩ : S25)] : List (S25))) 4 (⟨#[98]⟩ : ByteArray) ([] : List (S99))).bind fun bt221 => ((active_Again.f k (([(⟨1, (⟨#[98]⟩ : ByteArray), ([] : List (S99))⟩ : S25), (⟨2, (⟨#[105]⟩ : ByteArray), ([] : List (S99))⟩ : S25)] : List (S25))) (([1] : List Int))).bind fun bt231 => (if bt221.2 = 0 then (if (bt221.1.length : Int) = 3 then (if 2 < (bt221.1.length : Int) then (if ((rd_T25 bt221.1 2).f0) = 4 then (if bt231.2 = 0 then ((clerestoryref1_SameInts.f k bt231.1 (([1] : List Int))).bind fun t239 => (some t239)) else (some false)) else (some false)) else (none)) else (some false)) else (some false)))) = some r := h
 clear h
 obtain ⟨y218, hy218⟩ : ∃ y_ : List (S25), y_ = (([(⟨1, (⟨#[98]⟩ : ByteArray), ([] : List (S99))⟩ : S25), (⟨1, (⟨#[98]⟩ : ByteArray), ([] : List (S99))⟩ : S25), (⟨1, (⟨#[98]⟩ : ByteArray), ([] : List (S99))⟩ : S25)] : List (S25))) := ⟨_, rfl⟩
 replace H : ((active_Push.f k y218 4 (⟨#[98]⟩ : ByteArray) ([] : List (S99))).bind fun bt221 => ((active_Again.f k (([(⟨1, (⟨#[98]⟩ : ByteArray), ([] : List (S99))⟩ : S25), (⟨2, (⟨#[105]⟩ : ByteArray), ([] : List (S99))⟩ : S25)] : List (S25))) (([1] : List Int))).bind fun bt231 => (if bt221.2 = 0 then (if (bt221.1.length : Int) = 3 then (if 2 < (bt221.1.length : Int) then (if ((rd_T25 bt221.1 2).f0) = 4 then (if bt231.2 = 0 then ((clerestoryref1_SameInts.f k bt231.1 (([1] : List Int))).bind fun t239 => (some t239)) else (some false)) else (some false)) else (none)) else (some false)) else (some false)))) = some r := by first | (rw [hy218]; with_reducible exact H) | (have H2_ := (Option.bind_some _ _).symm.trans H; rw [hy218]; with_reducible exact H2_) | (have H2_ := (Option.bind_some _ _).symm.trans H; with_reducible exact H2_) | with_reducible exact H | (rw [hy218]; exact H) | exact H
 have Ny218 := aS hy218
 clear hy218
 replace H := Option.bind_eq_some_iff.mp H
 obtain ⟨⟨t221, t224⟩, A10, H⟩ := H
 replace H : ((active_Again.f k (([(⟨1, (⟨#[98]⟩ : ByteArray), ([] : List (S99))⟩ : S25), (⟨2, (⟨#[105]⟩ : ByteArray), ([] : List (S99))⟩ : S25)] : List (S25))) (([1] : List Int))).bind fun bt231 => (if t224 = 0 then (if (t221.length : Int) = 3 then (if 2 < (t221.length : Int) then (if ((rd_T25 t221 2).f0) = 4 then (if bt231.2 = 0 then ((clerestoryref1_SameInts.f k bt231.1 (([1] : List Int))).bind fun t239 => (some t239)) else (some false)) else (some false)) else (none)) else (some false)) else (some false))) = some r := H
 have A1 := aS A10
 clear A10
 obtain ⟨y225, hy225⟩ : ∃ y_ : List (S25), y_ = (([(⟨1, (⟨#[98]⟩ : ByteArray), ([] : List (S99))⟩ : S25), (⟨2, (⟨#[105]⟩ : ByteArray), ([] : List (S99))⟩ : S25)] : List (S25))) := ⟨_, rfl⟩
 replace H : ((active_Again.f k y225 (([1] : List Int))).bind fun bt231 => (if t224 = 0 then (if (t221.length : Int) = 3 then (if 2 < (t221.length : Int) then (if ((rd_T25 t221 2).f0) = 4 then (if bt231.2 = 0 then ((clerestoryref1_SameInts.f k bt231.1 (([1] : List Int))).bind fun t239 => (some t239)) else (some false)) else (some false)) else (none)) else (some false)) else (some false))) = some r := by first | (rw [hy225]; with_reducible exact H) | (have H2_ := (Option.bind_some _ _).symm.trans H; rw [hy225]; with_reducible exact H2_) | (have H2_ := (Option.bind_some _ _).symm.trans H; with_reducible exact H2_) | with_reducible exact H | (rw [hy225]; exact H) | exact H
 have Ny225 := aS hy225
 clear hy225
 obtain ⟨y228, hy228⟩ : ∃ y_ : List Int, y_ = (([1] : List Int)) := ⟨_, rfl⟩
 replace H : ((active_Again.f k y225 y228).bind fun bt231 => (if t224 = 0 then (if (t221.length : Int) = 3 then (if 2 < (t221.length : Int) then (if ((rd_T25 t221 2).f0) = 4 then (if bt231.2 = 0 then ((clerestoryref1_SameInts.f k bt231.1 (([1] : List Int))).bind fun t239 => (some t239)) else (some false)) else (some false)) else (none)) else (some false)) else (some false))) = some r := by first | (rw [hy228]; with_reducible exact H) | (have H2_ := (Option.bind_some _ _).symm.trans H; rw [hy228]; with_reducible exact H2_) | (have H2_ := (Option.bind_some _ _).symm.trans H; with_reducible exact H2_) | with_reducible exact H | (rw [hy228]; exact H) | exact H
 have Ny228 := aS hy228
 clear hy228
 replace H := Option.bind_eq_some_iff.mp H
 obtain ⟨⟨t231, t232⟩, A20, H⟩ := H
 replace H : (if t224 = 0 then (if (t221.length : Int) = 3 then (if 2 < (t221.length : Int) then (if ((rd_T25 t221 2).f0) = 4 then (if t232 = 0 then ((clerestoryref1_SameInts.f k t231 (([1] : List Int))).bind fun t239 => (some t239)) else (some false)) else (some false)) else (none)) else (some false)) else (some false)) = some r := H
 have A2 := aS A20
 clear A20
 by_cases c3 : t224 = 0
 ·rw [if_pos c3] at H
  have c3b0 : (t224 == 0) = true := beq_iff_eq.mpr c3
  have c3b1 : (t224 != 0) = false := bne_eq_false_iff_eq.mpr c3
  clear c3
  by_cases c4 : (t221.length : Int) = 3
  ·rw [if_pos c4] at H
   have c4b0 : ((t221.length : Int) == 3) = true := beq_iff_eq.mpr c4
   have c4b1 : ((t221.length : Int) != 3) = false := bne_eq_false_iff_eq.mpr c4
   clear c4
   by_cases c5 : 2 < (t221.length : Int)
   ·rw [if_pos c5] at H
    have c5b0 : decide (2 < (t221.length : Int)) = true := decide_eq_true c5
    have c5b1 : decide (2 < t221.length) = true := decide_eq_true (by omega)
    clear c5
    by_cases c6 : ((rd_T25 t221 2).f0) = 4
    ·rw [if_pos c6] at H
     have c6b0 : (((rd_T25 t221 2).f0) == 4) = true := beq_iff_eq.mpr c6
     have c6b1 : (((rd_T25 t221 2).f0) != 4) = false := bne_eq_false_iff_eq.mpr c6
     clear c6
     by_cases c7 : t232 = 0
     ·rw [if_pos c7] at H
      have c7b0 : (t232 == 0) = true := beq_iff_eq.mpr c7
      have c7b1 : (t232 != 0) = false := bne_eq_false_iff_eq.mpr c7
      clear c7
      obtain ⟨y236, hy236⟩ : ∃ y_ : List Int, y_ = (([1] : List Int)) := ⟨_, rfl⟩
      replace H : ((clerestoryref1_SameInts.f k t231 y236).bind fun t239 => (some t239)) = some r := by first | (rw [hy236]; with_reducible exact H) | (have H2_ := (Option.bind_some _ _).symm.trans H; rw [hy236]; with_reducible exact H2_) | (have H2_ := (Option.bind_some _ _).symm.trans H; with_reducible exact H2_) | with_reducible exact H | (rw [hy236]; exact H) | exact H
      have Ny236 := aS hy236
      clear hy236
      replace H := Option.bind_eq_some_iff.mp H
      obtain ⟨t239, A80, H⟩ := H
      replace H : (some t239) = some r := H
      have A8 := aS A80
      clear A80
      obtain rfl := Option.some.inj H
      go_enter Try.func15, Try.ntmps15
      go_wp2_with (first | ((with_reducible refine gate_dst (N := 1) rfl ?_); (try (refine gate_guard (by rfl) ?_; dsimp only)); refine box_event ?hg (N := 1) ?hd (cs := #[.int .i64 0, .string (⟨#[]⟩ : ByteArray), .slice none 0 0]) (t := 25) ?hr ?_; (case hd => rfl); (case hg => rfl); (case hr => first | (go_simp; done) | (go_simp; rfl)); intro gb217 hg w9 hbox hb; have n0_ := aS (below_step (by repeat (first | (with_reducible first | exact HB.out | apply bA | apply bN | apply bD) | exact HB.out)) hb); have n1_ := aS (hbox); have n2_ := aS ((by rw [hg]; exact (below_size (by repeat (first | (with_reducible first | exact HB.out | apply bA | apply bN | apply bD) | exact HB.out))) : w.heap.size ≤ gb217)); have n3_ := aS ((by rw [hg]; exact (below_size (by repeat (first | (with_reducible first | exact HB.out | apply bA | apply bN | apply bD) | exact HB.out))) : w.heap.size ≤ gb217)); clear HB; have HB := n0_; have BK217 := n1_; have GW217 := n2_; have GE217 := n3_; clear n0_ n1_ n2_ n3_; clear hb hbox hg; have hcz10_0 : w9.cell? ⟨gb217, 0, none⟩ = some (.int .i64 0) := (blk_cell BK217.out 0).trans rfl; have hcz10_1 : w9.cell? ⟨gb217, 1, none⟩ = some (.string (⟨#[]⟩ : ByteArray)) := (blk_cell BK217.out 1).trans rfl; have hcz10_2 : w9.cell? ⟨gb217, 2, none⟩ = some (.slice none 0 0) := (blk_cell BK217.out 2).trans rfl; have hfz10_0 := blk_frozen BK217.out 0; have hfz10_1 := blk_frozen BK217.out 1; have hfz10_2 := blk_frozen BK217.out 2) | ((with_reducible refine gate_dst (N := 11) rfl ?_); (try (refine gate_guard (by rfl) ?_; dsimp only)); refine Kd.N_lit k25 _ 25 ?hg (N' := 11) ?hd (xs := ([(⟨1, (⟨#[98]⟩ : ByteArray), ([] : List (S99))⟩ : S25), (⟨1, (⟨#[98]⟩ : ByteArray), ([] : List (S99))⟩ : S25), (⟨1, (⟨#[98]⟩ : ByteArray), ([] : List (S99))⟩ : S25)] : List (S25))) (inner := [.int .i64 1, .string (⟨#[98]⟩ : ByteArray), .slice none 0 0, .int .i64 1, .string (⟨#[98]⟩ : ByteArray), .slice none 0 0, .int .i64 1, .string (⟨#[98]⟩ : ByteArray), .slice none 0 0]) (ok := (fun k_ => k_ ≠ gb217)) (okp := (fun k_ => k_ ≠ gb217)) ?hr ?hp (fun _ hk => hk) ((show ∀ k_, w9.heap.size ≤ k_ → (fun k_ => k_ ≠ gb217) k_ from fun k_ hk => (by first | exact Kd.freshB (g := gb217) BK217.out k_ hk | exact Kd.freshB (g := gb217) (o := .cells #[.int .i64 1, .string (⟨#[98]⟩ : ByteArray), .slice none 0 0] 25 (0, 0)) (by (with_reducible repeat (first | refine kN ?_ _ | refine kD ?_ | refine kA ?_ _)); refine blk_put (cs := #[.int .i64 1, .string (⟨#[98]⟩ : ByteArray), .slice none 0 0]) ?_ 2 _ rfl; (with_reducible repeat (first | refine kN ?_ _ | refine kD ?_ | refine kA ?_ _)); refine blk_put (cs := #[.int .i64 1, .string (⟨#[]⟩ : ByteArray), .slice none 0 0]) ?_ 1 _ rfl; (with_reducible repeat (first | refine kN ?_ _ | refine kD ?_ | refine kA ?_ _)); refine blk_put (cs := #[.int .i64 0, .string (⟨#[]⟩ : ByteArray), .slice none 0 0]) ?_ 0 _ rfl; (with_reducible repeat (first | refine kN ?_ _ | refine kD ?_ | refine kA ?_ _)); exact BK217.out) k_ hk)) _ (by first | exact Nat.le_refl _ | simp)) (Below.refl _ _) (Nat.le_refl _) (by simp) ?_; (case hd => rfl); (case hg => rfl); (case hr => first | (go_simp; done) | (go_simp; rfl)); (case hp => exact (Reps.c3 (show Kd.FK k25 _ _ (⟨1, (⟨#[98]⟩ : ByteArray), ([] : List (S99))⟩ : S25) [.int .i64 1, .string (⟨#[98]⟩ : ByteArray), .slice none 0 0] from (k25_mkF _ _ (⟨1, (⟨#[98]⟩ : ByteArray), ([] : List (S99))⟩ : S25) (Nat.le_refl _) (Kd.F_nil _ _ _))) (Reps.c3 (show Kd.FK k25 _ _ (⟨1, (⟨#[98]⟩ : ByteArray), ([] : List (S99))⟩ : S25) [.int .i64 1, .string (⟨#[98]⟩ : ByteArray), .slice none 0 0] from (k25_mkF _ _ (⟨1, (⟨#[98]⟩ : ByteArray), ([] : List (S99))⟩ : S25) (Nat.le_refl _) (Kd.F_nil _ _ _))) (Reps.c3 (show Kd.FK k25 _ _ (⟨1, (⟨#[98]⟩ : ByteArray), ([] : List (S99))⟩ : S25) [.int .i64 1, .string (⟨#[98]⟩ : ByteArray), .slice none 0 0] from (k25_mkF _ _ (⟨1, (⟨#[98]⟩ : ByteArray), ([] : List (S99))⟩ : S25) (Nat.le_refl _) (Kd.F_nil _ _ _))) (Reps.none _ _))))); intro v219 w11 ho12 hb hg_ hnew_; clear hg_ hnew_; (first | rw [← Ny218.out] at ho12 | (simp only [Int.reduceToNat] at ho12; rw [← Ny218.out] at ho12)); have n0_ := aS (Kd.N_lower ho12 (below_size (by repeat (first | (with_reducible first | exact HB.out | apply bA | apply bN | apply bD | refine bS ?_ GE217.out) | exact HB.out)))); have n1_ := aS (blk_below (g := gb217) (o := .cells #[.int .i64 1, .string (⟨#[98]⟩ : ByteArray), .slice none 0 0] 25 (0, 0)) (by (with_reducible repeat (first | refine kN ?_ _ | refine kD ?_ | refine kA ?_ _)); refine blk_put (cs := #[.int .i64 1, .string (⟨#[98]⟩ : ByteArray), .slice none 0 0]) ?_ 2 _ rfl; (with_reducible repeat (first | refine kN ?_ _ | refine kD ?_ | refine kA ?_ _)); refine blk_put (cs := #[.int .i64 1, .string (⟨#[]⟩ : ByteArray), .slice none 0 0]) ?_ 1 _ rfl; (with_reducible repeat (first | refine kN ?_ _ | refine kD ?_ | refine kA ?_ _)); refine blk_put (cs := #[.int .i64 0, .string (⟨#[]⟩ : ByteArray), .slice none 0 0]) ?_ 0 _ rfl; (with_reducible repeat (first | refine kN ?_ _ | refine kD ?_ | refine kA ?_ _)); exact BK217.out) hb); have n2_ := aS (below_step (by repeat (first | (with_reducible first | exact HB.out | apply bA | apply bN | apply bD | refine bS ?_ GE217.out) | exact HB.out)) hb); clear BK217; clear HB; have HO220 := n0_; have BK217 := n1_; have HB := n2_; clear n0_ n1_ n2_; clear hb ho12; obtain ⟨Ao13, co13, eo13⟩ := Kd.N_slice HO220.out; subst eo13) | ((with_reducible refine gate_callee (f := 10) rfl ?_); refine goesL_ (some 13) rfl rfl Try.func10 (by kernel_rfl) rfl #[.slice Ao13 y218.length co13, .agg #[.int .i64 4, .string (⟨#[98]⟩ : ByteArray), .slice none 0 0]] rfl (by (try simp only [List.map_toArray, List.map_cons, List.map_nil]); first | done | rfl | (simp only [List.length_drop, List.length_take]; rfl)) ?_; (refine (active_Push.calls k (fun k_ => k_ ≠ gb217) _ _ y218 4 (⟨#[98]⟩ : ByteArray) (fun k_ => False) _ _ ([] : List (S99)) t221 t224 _ ?side1 ?side2 A1.out).mono ?_); (case side1 => exact Kd.N_V (HO220.out)); (case side2 => exact Kd.V_nil _ _ _ _ _); rintro e w14 ⟨v222, rfl, ho0, hb⟩; refine ⟨_, rfl, ?_⟩; have n0_ := aS (Kd.N_elder' (by (with_reducible repeat (first | apply nA | apply nN | apply nD)); exact HO220.out) (Kd.N_base ho0) hb); have n1_ := aS (Kd.N_lower (Kd.N_mono (ok' := fun k_ => k_ ≠ gb217) ho0 (fun k_ hk_ => Or.elim hk_ (fun hs_ => Or.elim hs_ (fun hs_ => hs_) (fun hs_ => (hs_).elim)) (fun hn_ => (Kd.freshB (g := gb217) (o := .cells #[.int .i64 1, .string (⟨#[98]⟩ : ByteArray), .slice none 0 0] 25 (0, 0)) (by (with_reducible repeat (first | refine kN ?_ _ | refine kD ?_ | refine kA ?_ _)); exact BK217.out) k_ hn_)))) (below_size (by repeat (first | (with_reducible first | exact HB.out | apply bA | apply bN | apply bD | refine bS ?_ GE217.out) | exact HB.out)))); have n2_ := aS (blk_below (g := gb217) (o := .cells #[.int .i64 1, .string (⟨#[98]⟩ : ByteArray), .slice none 0 0] 25 (0, 0)) (by (with_reducible repeat (first | refine kN ?_ _ | refine kD ?_ | refine kA ?_ _)); exact BK217.out) hb); have n3_ := aS (below_step (by repeat (first | (with_reducible first | exact HB.out | apply bA | apply bN | apply bD | refine bS ?_ GE217.out) | exact HB.out)) hb); clear HO220; clear BK217; clear HB; have HO220 := n0_; have HO223 := n1_; have BK217 := n2_; have HB := n3_; clear n0_ n1_ n2_ n3_; (try clear hb); (try clear hb2); (try clear hk); (try clear hi); (try clear ho0); have hcz15_0 : w14.cell? ⟨gb217, 0, none⟩ = some (.int .i64 1) := (blk_cell BK217.out 0).trans rfl; have hcz15_1 : w14.cell? ⟨gb217, 1, none⟩ = some (.string (⟨#[98]⟩ : ByteArray)) := (blk_cell BK217.out 1).trans rfl; have hcz15_2 : w14.cell? ⟨gb217, 2, none⟩ = some (.slice none 0 0) := (blk_cell BK217.out 2).trans rfl; have hfz15_0 := blk_frozen BK217.out 0; have hfz15_1 := blk_frozen BK217.out 1; have hfz15_2 := blk_frozen BK217.out 2) | ((with_reducible refine gate_dst (N := 19) rfl ?_); (try (refine gate_guard (by rfl) ?_; dsimp only)); refine Kd.N_lit k25 _ 25 ?hg (N' := 19) ?hd (xs := ([(⟨1, (⟨#[98]⟩ : ByteArray), ([] : List (S99))⟩ : S25), (⟨2, (⟨#[105]⟩ : ByteArray), ([] : List (S99))⟩ : S25)] : List (S25))) (inner := [.int .i64 1, .string (⟨#[98]⟩ : ByteArray), .slice none 0 0, .int .i64 2, .string (⟨#[105]⟩ : ByteArray), .slice none 0 0]) (ok := (fun k_ => some k_ ≠ (.slice Ao13 y218.length co13 : Value).ownBlock ∧ some k_ ≠ (v222 : Value).ownBlock ∧ k_ ≠ gb217)) (okp := (fun k_ => some k_ ≠ (.slice Ao13 y218.length co13 : Value).ownBlock ∧ some k_ ≠ (v222 : Value).ownBlock ∧ k_ ≠ gb217)) ?hr ?hp (fun _ hk => hk) ((show ∀ k_, w14.heap.size ≤ k_ → (fun k_ => some k_ ≠ (.slice Ao13 y218.length co13 : Value).ownBlock ∧ some k_ ≠ (v222 : Value).ownBlock ∧ k_ ≠ gb217) k_ from fun k_ hk => ⟨Kd.fresh' (Kd.N_lt (by (with_reducible repeat (first | apply nA | apply nN | apply nD)); exact HO220.out)) k_ hk, Kd.fresh' (Kd.N_lt (by (with_reducible repeat (first | apply nA | apply nN | apply nD)); exact HO223.out)) k_ hk, Kd.freshB (g := gb217) (o := .cells #[.int .i64 1, .string (⟨#[98]⟩ : ByteArray), .slice none 0 0] 25 (0, 0)) (by (with_reducible repeat (first | refine kN ?_ _ | refine kD ?_ | refine kA ?_ _)); exact BK217.out) k_ hk⟩) _ (by first | exact Nat.le_refl _ | simp)) (Below.refl _ _) (Nat.le_refl _) (by simp) ?_; (case hd => rfl); (case hg => rfl); (case hr => first | (go_simp; done) | (go_simp; rfl)); (case hp => exact (Reps.c3 (show Kd.FK k25 _ _ (⟨1, (⟨#[98]⟩ : ByteArray), ([] : List (S99))⟩ : S25) [.int .i64 1, .string (⟨#[98]⟩ : ByteArray), .slice none 0 0] from (k25_mkF _ _ (⟨1, (⟨#[98]⟩ : ByteArray), ([] : List (S99))⟩ : S25) (Nat.le_refl _) (Kd.F_nil _ _ _))) (Reps.c3 (show Kd.FK k25 _ _ (⟨2, (⟨#[105]⟩ : ByteArray), ([] : List (S99))⟩ : S25) [.int .i64 2, .string (⟨#[105]⟩ : ByteArray), .slice none 0 0] from (k25_mkF _ _ (⟨2, (⟨#[105]⟩ : ByteArray), ([] : List (S99))⟩ : S25) (Nat.le_refl _) (Kd.F_nil _ _ _))) (Reps.none _ _)))); intro v226 w16 ho17 hb hg_ hnew_; clear hg_ hnew_; (first | rw [← Ny225.out] at ho17 | (simp only [Int.reduceToNat] at ho17; rw [← Ny225.out] at ho17)); have n0_ := aS (Kd.N_elder' (by (with_reducible repeat (first | apply nA | apply nN | apply nD)); exact HO220.out) (Kd.N_base ho17) hb); have n1_ := aS (Kd.N_elder' (by (with_reducible repeat (first | apply nA | apply nN | apply nD)); exact HO223.out) (Kd.N_base ho17) hb); have n2_ := aS (Kd.N_lower ho17 (below_size (by repeat (first | (with_reducible first | exact HB.out | apply bA | apply bN | apply bD | refine bS ?_ GE217.out) | exact HB.out)))); have n3_ := aS (blk_below (g := gb217) (o := .cells #[.int .i64 1, .string (⟨#[98]⟩ : ByteArray), .slice none 0 0] 25 (0, 0)) (by (with_reducible repeat (first | refine kN ?_ _ | refine kD ?_ | refine kA ?_ _)); exact BK217.out) hb); have n4_ := aS (below_step (by repeat (first | (with_reducible first | exact HB.out | apply bA | apply bN | apply bD | refine bS ?_ GE217.out) | exact HB.out)) hb); clear HO220; clear HO223; clear BK217; clear HB; have HO220 := n0_; have HO223 := n1_; have HO227 := n2_; have BK217 := n3_; have HB := n4_; clear n0_ n1_ n2_ n3_ n4_; clear hb ho17) | ((with_reducible refine gate_dst (N := 20) rfl ?_); (try (refine gate_guard (by rfl) ?_; dsimp only)); refine Kd.R_lit (Kd.int .i64) _ 3 ?hg (N := 20) ?hd (xs := ([1] : List Int)) (inner := [.int .i64 1]) (ok := fun _ => True) (okp := fun _ => True) ?hr ?hp (fun _ hk => hk) trivial (Below.refl _ _) (Nat.le_refl _) (by simp) ?_; (case hd => rfl); (case hg => rfl); (case hr => first | (go_simp; done) | (go_simp; rfl)); (case hp => exact (Reps.one (show Kd.M (Kd.int .i64) _ _ _ 1 [.int .i64 1] from rfl) (Reps.none _ _))); intro v229 w18 ho19 hb hg_ hnew_; clear hg_ hnew_; (first | rw [← Ny228.out] at ho19 | (simp only [Int.reduceToNat] at ho19; rw [← Ny228.out] at ho19)); have n0_ := aS (Kd.N_elder' (by (with_reducible repeat (first | apply nA | apply nN | apply nD)); exact HO220.out) (Kd.R_base ho19) hb); have n1_ := aS (Kd.N_elder' (by (with_reducible repeat (first | apply nA | apply nN | apply nD)); exact HO223.out) (Kd.R_base ho19) hb); have n2_ := aS (Kd.N_elder' (by (with_reducible repeat (first | apply nA | apply nN | apply nD)); exact HO227.out) (Kd.R_base ho19) hb); have n3_ := aS (Kd.R_lower ho19 (below_size (by repeat (first | (with_reducible first | exact HB.out | apply bA | apply bN | apply bD | refine bS ?_ GE217.out) | exact HB.out)))); have n4_ := aS (blk_below (g := gb217) (o := .cells #[.int .i64 1, .string (⟨#[98]⟩ : ByteArray), .slice none 0 0] 25 (0, 0)) (by (with_reducible repeat (first | refine kN ?_ _ | refine kD ?_ | refine kA ?_ _)); exact BK217.out) hb); have n5_ := aS (below_step (by repeat (first | (with_reducible first | exact HB.out | apply bA | apply bN | apply bD | refine bS ?_ GE217.out) | exact HB.out)) hb); clear HO220; clear HO223; clear HO227; clear BK217; clear HB; have HO220 := n0_; have HO223 := n1_; have HO227 := n2_; have HO230 := n3_; have BK217 := n4_; have HB := n5_; clear n0_ n1_ n2_ n3_ n4_ n5_; clear hb ho19; obtain ⟨Ao20, co20, eo20⟩ := Kd.N_slice HO227.out; subst eo20; obtain ⟨Ao21, co21, eo21⟩ := Kd.R_slice HO230.out; subst eo21) | ((with_reducible refine gate_callee (f := 23) rfl ?_); refine goesL_ (some 21) rfl rfl Try.func23 (by kernel_rfl) rfl #[.slice Ao20 y225.length co20, .slice Ao21 y228.length co21] rfl (by (try simp only [List.map_toArray, List.map_cons, List.map_nil]); first | done | rfl | (simp only [List.length_drop, List.length_take]; rfl)) ?_; (with_reducible refine (active_Again.calls k _ _ y225 _ _ y228 t231 t232 _ ?side1 ?side2 ?side3 ?side4 A2.out).mono ?_); (case side1 => repeat (first | exact (Kd.N_reads' HO227.out).2.2 | (with_reducible refine cA ?_ _) | (with_reducible refine cN ?_ _) | (with_reducible refine cD ?_))); (case side2 => exact (Kd.N_reads' HO227.out).2.1); (case side3 => repeat (first | exact (Kd.R_reads' HO230.out).2.2 | (with_reducible refine cA ?_ _) | (with_reducible refine cN ?_ _) | (with_reducible refine cD ?_))); (case side4 => exact (Kd.R_reads' HO230.out).2.1); rintro e w22 ⟨v233, rfl, ho0, hb⟩; refine ⟨_, rfl, ?_⟩; have n0_ := aS (Kd.N_elder' (by (with_reducible repeat (first | apply nA | apply nN | apply nD)); exact HO220.out) (Kd.R_base ho0) hb); have n1_ := aS (Kd.N_elder' (by (with_reducible repeat (first | apply nA | apply nN | apply nD)); exact HO223.out) (Kd.R_base ho0) hb); have n2_ := aS (Kd.N_elder' (by (with_reducible repeat (first | apply nA | apply nN | apply nD)); exact HO227.out) (Kd.R_base ho0) hb); have n3_ := aS (Kd.R_elder' (by (with_reducible repeat (first | apply rA | apply rN | apply rD)); exact HO230.out) (Kd.R_base ho0) hb); have n4_ := aS (Kd.R_lower (Kd.R_new' ho0 (Kd.R_lt (by (with_reducible repeat (first | apply rA | apply rN | apply rD)); exact HO230.out))) (below_size (by repeat (first | (with_reducible first | exact HB.out | apply bA | apply bN | apply bD | refine bS ?_ GE217.out) | exact HB.out)))); have n5_ := aS (blk_below (g := gb217) (o := .cells #[.int .i64 1, .string (⟨#[98]⟩ : ByteArray), .slice none 0 0] 25 (0, 0)) (by (with_reducible repeat (first | refine kN ?_ _ | refine kD ?_ | refine kA ?_ _)); exact BK217.out) hb); have n6_ := aS (below_step (by repeat (first | (with_reducible first | exact HB.out | apply bA | apply bN | apply bD | refine bS ?_ GE217.out) | exact HB.out)) hb); clear HO220; clear HO223; clear HO227; clear HO230; clear BK217; clear HB; have HO220 := n0_; have HO223 := n1_; have HO227 := n2_; have HO230 := n3_; have HO234 := n4_; have BK217 := n5_; have HB := n6_; clear n0_ n1_ n2_ n3_ n4_ n5_ n6_; (try clear hb); (try clear hb2); (try clear hk); (try clear hi); (try clear ho0); obtain ⟨Ao23, co23, eo23⟩ := Kd.N_slice HO223.out; subst eo23; have p235 : 0 ≤ (2 : Int) := (by omega); have q235 : 2 < (t221.length : Int) := od (by first | (with_reducible assumption) | assumption); obtain ⟨ad235, A235_2, c235_2, e235, hx235_0, hx235_1, hx235_2, hl235_2, hi235_2⟩ := at_T25 (Kd.N_reads' HO223.out).2.2 2 p235 q235; cases e235; obtain ⟨ce235, hce235, hMe235, hcc235⟩ := Kd.N_get HO223.out z25 2 p235 (by first | exact q235 | exact od (by first | (with_reducible assumption) | assumption) | (have e_ := (Kd.N_reads' HO223.out).1; omega)); obtain ⟨ua235_2, uc235_2, rfl, ul235_2, ge235_2⟩ := k25_openF hMe235; have hv235_2 := hcc235 2 _ rfl; rw [add_field _ _ 2 (by omega)] at hv235_2; replace hv235_2 := Option.some.inj (hv235_2.symm.trans hx235_2); injection hv235_2 with hva_ hvn_ hvc_; rw [hva_] at ge235_2; rw [hvc_] at ul235_2; have HL235_2 := aS (show Kd.V k99 99 _ w.heap.size _ _ ((rd_T25 t221 2).f2) from Kd.V_mk ul235_2 ge235_2); clear hva_ hvn_ hvc_ ge235_2 ul235_2; clear hcc235 hce235; (try simp only [show (2 : Int).toNat = 2 from rfl, Nat.reduceMul, Nat.reduceEqDiff, Go.Addr.add, ↓reduceIte] at hx235_0); (try simp only [show (2 : Int).toNat = 2 from rfl, Nat.reduceMul, Nat.reduceEqDiff, Go.Addr.add, ↓reduceIte] at hx235_1); (try simp only [show (2 : Int).toNat = 2 from rfl, Nat.reduceMul, Nat.reduceEqDiff, Go.Addr.add, ↓reduceIte] at hx235_2); have qi235 : (2 < t221.length) = True := eq_true (by omega); (try rw [show ((2 : Int)).toNat = 2 from rfl] at hx235_0); (try rw [show 2 * 3 = 6 from rfl] at hx235_0); (try rw [show ((2 : Int)).toNat = 2 from rfl] at hx235_1); (try rw [show 2 * 3 = 6 from rfl] at hx235_1); (try rw [show ((2 : Int)).toNat = 2 from rfl] at hx235_2); (try rw [show 2 * 3 = 6 from rfl] at hx235_2); have HR235_2 := aS hi235_2; have HC235_2 := aS hl235_2; clear hi235_2 hl235_2; replace p235 := eq_true p235; replace q235 := eq_true q235) | ((with_reducible refine gate_dst (N := 44) rfl ?_); (try (refine gate_guard (by rfl) ?_; dsimp only)); refine Kd.R_lit (Kd.int .i64) _ 3 ?hg (N := 44) ?hd (xs := ([1] : List Int)) (inner := [.int .i64 1]) (ok := fun _ => True) (okp := fun _ => True) ?hr ?hp (fun _ hk => hk) trivial (Below.refl _ _) (Nat.le_refl _) (by simp) ?_; (case hd => rfl); (case hg => rfl); (case hr => first | (go_simp; done) | (go_simp; rfl)); (case hp => exact (Reps.one (show Kd.M (Kd.int .i64) _ _ _ 1 [.int .i64 1] from rfl) (Reps.none _ _))); intro v237 w24 ho25 hb hg_ hnew_; clear hg_ hnew_; (first | rw [← Ny236.out] at ho25 | (simp only [Int.reduceToNat] at ho25; rw [← Ny236.out] at ho25)); have n0_ := aS (Kd.N_elder' (by (with_reducible repeat (first | apply nA | apply nN | apply nD)); exact HO220.out) (Kd.R_base ho25) hb); have n1_ := aS (Kd.N_elder' (by (with_reducible repeat (first | apply nA | apply nN | apply nD)); exact HO223.out) (Kd.R_base ho25) hb); have n2_ := aS (Kd.N_elder' (by (with_reducible repeat (first | apply nA | apply nN | apply nD)); exact HO227.out) (Kd.R_base ho25) hb); have n3_ := aS (Kd.R_elder' (by (with_reducible repeat (first | apply rA | apply rN | apply rD)); exact HO230.out) (Kd.R_base ho25) hb); have n4_ := aS (Kd.R_elder' (by (with_reducible repeat (first | apply rA | apply rN | apply rD)); exact HO234.out) (Kd.R_base ho25) hb); have n5_ := aS (Kd.V_elder' (by (with_reducible repeat (first | apply vA | apply vN | apply vD)); exact HL235_2.out) (Kd.R_base ho25) hb); have n6_ := aS (Kd.R_lower (Kd.R_new' (Kd.R_new' ho25 (Kd.R_lt (by (with_reducible repeat (first | apply rA | apply rN | apply rD)); exact HO230.out))) (Kd.R_lt (by (with_reducible repeat (first | apply rA | apply rN | apply rD)); exact HO234.out))) (below_size (by repeat (first | (with_reducible first | exact HB.out | apply bA | apply bN | apply bD | refine bS ?_ GE217.out) | exact HB.out)))); have n7_ := aS (blk_below (g := gb217) (o := .cells #[.int .i64 1, .string (⟨#[98]⟩ : ByteArray), .slice none 0 0] 25 (0, 0)) (by (with_reducible repeat (first | refine kN ?_ _ | refine kD ?_ | refine kA ?_ _)); exact BK217.out) hb); have n8_ := aS (Kd.C_below (by repeat (first | (with_reducible exact HR235_2.out) | (with_reducible refine cA ?_ _) | (with_reducible refine cN ?_ _) | (with_reducible refine cD ?_) | exact HR235_2.out)) hb); have n9_ := aS (below_step (by repeat (first | (with_reducible first | exact HB.out | apply bA | apply bN | apply bD | refine bS ?_ GE217.out) | exact HB.out)) hb); clear HO220; clear HO223; clear HO227; clear HO230; clear HO234; clear HL235_2; clear BK217; clear HR235_2; clear HB; have HO220 := n0_; have HO223 := n1_; have HO227 := n2_; have HO230 := n3_; have HO234 := n4_; have HL235_2 := n5_; have HO238 := n6_; have BK217 := n7_; have HR235_2 := n8_; have HB := n9_; clear n0_ n1_ n2_ n3_ n4_ n5_ n6_ n7_ n8_ n9_; clear hb ho25; obtain ⟨Ao26, co26, eo26⟩ := Kd.R_slice HO234.out; subst eo26; obtain ⟨Ao27, co27, eo27⟩ := Kd.R_slice HO238.out; subst eo27) | (go_at_call 26; (with_reducible refine (clerestoryref1_SameInts.calls k _ _ t231 _ _ y236 t239 _ ?side1 ?side2 ?side3 ?side4 A8.out).mono ?_); (case side1 => repeat (first | exact (Kd.R_reads' HO234.out).2.2 | (with_reducible refine cA ?_ _) | (with_reducible refine cN ?_ _) | (with_reducible refine cD ?_))); (case side2 => exact (Kd.R_reads' HO234.out).2.1); (case side3 => repeat (first | exact (Kd.R_reads' HO238.out).2.2 | (with_reducible refine cA ?_ _) | (with_reducible refine cN ?_ _) | (with_reducible refine cD ?_))); (case side4 => exact (Kd.R_reads' HO238.out).2.1); rintro e w' ⟨rfl, ⟨nd, rfl⟩⟩))
      go_ret
      exact ⟨by first | rfl | (simp [errW_none, errW_some] <;> rfl) | (simp [*, errW_none, errW_some] <;> rfl), by repeat (first | (with_reducible first | exact HB.out | apply bA | apply bN | apply bD | refine bS ?_ GE217.out) | exact HB.out)⟩
     ·rw [if_neg c7] at H
      have c7b0 : (t232 == 0) = false := beq_eq_false_iff_ne.mpr c7
      have c7b1 : (t232 != 0) = true := bne_iff_ne.mpr c7
      obtain rfl := Option.some.inj H
      go_enter Try.func15, Try.ntmps15
      go_wp2_with (first | ((with_reducible refine gate_dst (N := 1) rfl ?_); (try (refine gate_guard (by rfl) ?_; dsimp only)); refine box_event ?hg (N := 1) ?hd (cs := #[.int .i64 0, .string (⟨#[]⟩ : ByteArray), .slice none 0 0]) (t := 25) ?hr ?_; (case hd => rfl); (case hg => rfl); (case hr => first | (go_simp; done) | (go_simp; rfl)); intro gb217 hg w28 hbox hb; have n0_ := aS (below_step (by repeat (first | (with_reducible first | exact HB.out | apply bA | apply bN | apply bD) | exact HB.out)) hb); have n1_ := aS (hbox); have n2_ := aS ((by rw [hg]; exact (below_size (by repeat (first | (with_reducible first | exact HB.out | apply bA | apply bN | apply bD) | exact HB.out))) : w.heap.size ≤ gb217)); have n3_ := aS ((by rw [hg]; exact (below_size (by repeat (first | (with_reducible first | exact HB.out | apply bA | apply bN | apply bD) | exact HB.out))) : w.heap.size ≤ gb217)); clear HB; have HB := n0_; have BK217 := n1_; have GW217 := n2_; have GE217 := n3_; clear n0_ n1_ n2_ n3_; clear hb hbox hg; have hcz29_0 : w28.cell? ⟨gb217, 0, none⟩ = some (.int .i64 0) := (blk_cell BK217.out 0).trans rfl; have hcz29_1 : w28.cell? ⟨gb217, 1, none⟩ = some (.string (⟨#[]⟩ : ByteArray)) := (blk_cell BK217.out 1).trans rfl; have hcz29_2 : w28.cell? ⟨gb217, 2, none⟩ = some (.slice none 0 0) := (blk_cell BK217.out 2).trans rfl; have hfz29_0 := blk_frozen BK217.out 0; have hfz29_1 := blk_frozen BK217.out 1; have hfz29_2 := blk_frozen BK217.out 2) | ((with_reducible refine gate_dst (N := 11) rfl ?_); (try (refine gate_guard (by rfl) ?_; dsimp only)); refine Kd.N_lit k25 _ 25 ?hg (N' := 11) ?hd (xs := ([(⟨1, (⟨#[98]⟩ : ByteArray), ([] : List (S99))⟩ : S25), (⟨1, (⟨#[98]⟩ : ByteArray), ([] : List (S99))⟩ : S25), (⟨1, (⟨#[98]⟩ : ByteArray), ([] : List (S99))⟩ : S25)] : List (S25))) (inner := [.int .i64 1, .string (⟨#[98]⟩ : ByteArray), .slice none 0 0, .int .i64 1, .string (⟨#[98]⟩ : ByteArray), .slice none 0 0, .int .i64 1, .string (⟨#[98]⟩ : ByteArray), .slice none 0 0]) (ok := (fun k_ => k_ ≠ gb217)) (okp := (fun k_ => k_ ≠ gb217)) ?hr ?hp (fun _ hk => hk) ((show ∀ k_, w28.heap.size ≤ k_ → (fun k_ => k_ ≠ gb217) k_ from fun k_ hk => (by first | exact Kd.freshB (g := gb217) BK217.out k_ hk | exact Kd.freshB (g := gb217) (o := .cells #[.int .i64 1, .string (⟨#[98]⟩ : ByteArray), .slice none 0 0] 25 (0, 0)) (by (with_reducible repeat (first | refine kN ?_ _ | refine kD ?_ | refine kA ?_ _)); refine blk_put (cs := #[.int .i64 1, .string (⟨#[98]⟩ : ByteArray), .slice none 0 0]) ?_ 2 _ rfl; (with_reducible repeat (first | refine kN ?_ _ | refine kD ?_ | refine kA ?_ _)); refine blk_put (cs := #[.int .i64 1, .string (⟨#[]⟩ : ByteArray), .slice none 0 0]) ?_ 1 _ rfl; (with_reducible repeat (first | refine kN ?_ _ | refine kD ?_ | refine kA ?_ _)); refine blk_put (cs := #[.int .i64 0, .string (⟨#[]⟩ : ByteArray), .slice none 0 0]) ?_ 0 _ rfl; (with_reducible repeat (first | refine kN ?_ _ | refine kD ?_ | refine kA ?_ _)); exact BK217.out) k_ hk)) _ (by first | exact Nat.le_refl _ | simp)) (Below.refl _ _) (Nat.le_refl _) (by simp) ?_; (case hd => rfl); (case hg => rfl); (case hr => first | (go_simp; done) | (go_simp; rfl)); (case hp => exact (Reps.c3 (show Kd.FK k25 _ _ (⟨1, (⟨#[98]⟩ : ByteArray), ([] : List (S99))⟩ : S25) [.int .i64 1, .string (⟨#[98]⟩ : ByteArray), .slice none 0 0] from (k25_mkF _ _ (⟨1, (⟨#[98]⟩ : ByteArray), ([] : List (S99))⟩ : S25) (Nat.le_refl _) (Kd.F_nil _ _ _))) (Reps.c3 (show Kd.FK k25 _ _ (⟨1, (⟨#[98]⟩ : ByteArray), ([] : List (S99))⟩ : S25) [.int .i64 1, .string (⟨#[98]⟩ : ByteArray), .slice none 0 0] from (k25_mkF _ _ (⟨1, (⟨#[98]⟩ : ByteArray), ([] : List (S99))⟩ : S25) (Nat.le_refl _) (Kd.F_nil _ _ _))) (Reps.c3 (show Kd.FK k25 _ _ (⟨1, (⟨#[98]⟩ : ByteArray), ([] : List (S99))⟩ : S25) [.int .i64 1, .string (⟨#[98]⟩ : ByteArray), .slice none 0 0] from (k25_mkF _ _ (⟨1, (⟨#[98]⟩ : ByteArray), ([] : List (S99))⟩ : S25) (Nat.le_refl _) (Kd.F_nil _ _ _))) (Reps.none _ _))))); intro v219 w30 ho31 hb hg_ hnew_; clear hg_ hnew_; (first | rw [← Ny218.out] at ho31 | (simp only [Int.reduceToNat] at ho31; rw [← Ny218.out] at ho31)); have n0_ := aS (Kd.N_lower ho31 (below_size (by repeat (first | (with_reducible first | exact HB.out | apply bA | apply bN | apply bD | refine bS ?_ GE217.out) | exact HB.out)))); have n1_ := aS (blk_below (g := gb217) (o := .cells #[.int .i64 1, .string (⟨#[98]⟩ : ByteArray), .slice none 0 0] 25 (0, 0)) (by (with_reducible repeat (first | refine kN ?_ _ | refine kD ?_ | refine kA ?_ _)); refine blk_put (cs := #[.int .i64 1, .string (⟨#[98]⟩ : ByteArray), .slice none 0 0]) ?_ 2 _ rfl; (with_reducible repeat (first | refine kN ?_ _ | refine kD ?_ | refine kA ?_ _)); refine blk_put (cs := #[.int .i64 1, .string (⟨#[]⟩ : ByteArray), .slice none 0 0]) ?_ 1 _ rfl; (with_reducible repeat (first | refine kN ?_ _ | refine kD ?_ | refine kA ?_ _)); refine blk_put (cs := #[.int .i64 0, .string (⟨#[]⟩ : ByteArray), .slice none 0 0]) ?_ 0 _ rfl; (with_reducible repeat (first | refine kN ?_ _ | refine kD ?_ | refine kA ?_ _)); exact BK217.out) hb); have n2_ := aS (below_step (by repeat (first | (with_reducible first | exact HB.out | apply bA | apply bN | apply bD | refine bS ?_ GE217.out) | exact HB.out)) hb); clear BK217; clear HB; have HO220 := n0_; have BK217 := n1_; have HB := n2_; clear n0_ n1_ n2_; clear hb ho31; obtain ⟨Ao32, co32, eo32⟩ := Kd.N_slice HO220.out; subst eo32) | ((with_reducible refine gate_callee (f := 10) rfl ?_); refine goesL_ (some 13) rfl rfl Try.func10 (by kernel_rfl) rfl #[.slice Ao32 y218.length co32, .agg #[.int .i64 4, .string (⟨#[98]⟩ : ByteArray), .slice none 0 0]] rfl (by (try simp only [List.map_toArray, List.map_cons, List.map_nil]); first | done | rfl | (simp only [List.length_drop, List.length_take]; rfl)) ?_; (refine (active_Push.calls k (fun k_ => k_ ≠ gb217) _ _ y218 4 (⟨#[98]⟩ : ByteArray) (fun k_ => False) _ _ ([] : List (S99)) t221 t224 _ ?side1 ?side2 A1.out).mono ?_); (case side1 => exact Kd.N_V (HO220.out)); (case side2 => exact Kd.V_nil _ _ _ _ _); rintro e w33 ⟨v222, rfl, ho0, hb⟩; refine ⟨_, rfl, ?_⟩; have n0_ := aS (Kd.N_elder' (by (with_reducible repeat (first | apply nA | apply nN | apply nD)); exact HO220.out) (Kd.N_base ho0) hb); have n1_ := aS (Kd.N_lower (Kd.N_mono (ok' := fun k_ => k_ ≠ gb217) ho0 (fun k_ hk_ => Or.elim hk_ (fun hs_ => Or.elim hs_ (fun hs_ => hs_) (fun hs_ => (hs_).elim)) (fun hn_ => (Kd.freshB (g := gb217) (o := .cells #[.int .i64 1, .string (⟨#[98]⟩ : ByteArray), .slice none 0 0] 25 (0, 0)) (by (with_reducible repeat (first | refine kN ?_ _ | refine kD ?_ | refine kA ?_ _)); exact BK217.out) k_ hn_)))) (below_size (by repeat (first | (with_reducible first | exact HB.out | apply bA | apply bN | apply bD | refine bS ?_ GE217.out) | exact HB.out)))); have n2_ := aS (blk_below (g := gb217) (o := .cells #[.int .i64 1, .string (⟨#[98]⟩ : ByteArray), .slice none 0 0] 25 (0, 0)) (by (with_reducible repeat (first | refine kN ?_ _ | refine kD ?_ | refine kA ?_ _)); exact BK217.out) hb); have n3_ := aS (below_step (by repeat (first | (with_reducible first | exact HB.out | apply bA | apply bN | apply bD | refine bS ?_ GE217.out) | exact HB.out)) hb); clear HO220; clear BK217; clear HB; have HO220 := n0_; have HO223 := n1_; have BK217 := n2_; have HB := n3_; clear n0_ n1_ n2_ n3_; (try clear hb); (try clear hb2); (try clear hk); (try clear hi); (try clear ho0); have hcz34_0 : w33.cell? ⟨gb217, 0, none⟩ = some (.int .i64 1) := (blk_cell BK217.out 0).trans rfl; have hcz34_1 : w33.cell? ⟨gb217, 1, none⟩ = some (.string (⟨#[98]⟩ : ByteArray)) := (blk_cell BK217.out 1).trans rfl; have hcz34_2 : w33.cell? ⟨gb217, 2, none⟩ = some (.slice none 0 0) := (blk_cell BK217.out 2).trans rfl; have hfz34_0 := blk_frozen BK217.out 0; have hfz34_1 := blk_frozen BK217.out 1; have hfz34_2 := blk_frozen BK217.out 2) | ((with_reducible refine gate_dst (N := 19) rfl ?_); (try (refine gate_guard (by rfl) ?_; dsimp only)); refine Kd.N_lit k25 _ 25 ?hg (N' := 19) ?hd (xs := ([(⟨1, (⟨#[98]⟩ : ByteArray), ([] : List (S99))⟩ : S25), (⟨2, (⟨#[105]⟩ : ByteArray), ([] : List (S99))⟩ : S25)] : List (S25))) (inner := [.int .i64 1, .string (⟨#[98]⟩ : ByteArray), .slice none 0 0, .int .i64 2, .string (⟨#[105]⟩ : ByteArray), .slice none 0 0]) (ok := (fun k_ => some k_ ≠ (.slice Ao32 y218.length co32 : Value).ownBlock ∧ some k_ ≠ (v222 : Value).ownBlock ∧ k_ ≠ gb217)) (okp := (fun k_ => some k_ ≠ (.slice Ao32 y218.length co32 : Value).ownBlock ∧ some k_ ≠ (v222 : Value).ownBlock ∧ k_ ≠ gb217)) ?hr ?hp (fun _ hk => hk) ((show ∀ k_, w33.heap.size ≤ k_ → (fun k_ => some k_ ≠ (.slice Ao32 y218.length co32 : Value).ownBlock ∧ some k_ ≠ (v222 : Value).ownBlock ∧ k_ ≠ gb217) k_ from fun k_ hk => ⟨Kd.fresh' (Kd.N_lt (by (with_reducible repeat (first | apply nA | apply nN | apply nD)); exact HO220.out)) k_ hk, Kd.fresh' (Kd.N_lt (by (with_reducible repeat (first | apply nA | apply nN | apply nD)); exact HO223.out)) k_ hk, Kd.freshB (g := gb217) (o := .cells #[.int .i64 1, .string (⟨#[98]⟩ : ByteArray), .slice none 0 0] 25 (0, 0)) (by (with_reducible repeat (first | refine kN ?_ _ | refine kD ?_ | refine kA ?_ _)); exact BK217.out) k_ hk⟩) _ (by first | exact Nat.le_refl _ | simp)) (Below.refl _ _) (Nat.le_refl _) (by simp) ?_; (case hd => rfl); (case hg => rfl); (case hr => first | (go_simp; done) | (go_simp; rfl)); (case hp => exact (Reps.c3 (show Kd.FK k25 _ _ (⟨1, (⟨#[98]⟩ : ByteArray), ([] : List (S99))⟩ : S25) [.int .i64 1, .string (⟨#[98]⟩ : ByteArray), .slice none 0 0] from (k25_mkF _ _ (⟨1, (⟨#[98]⟩ : ByteArray), ([] : List (S99))⟩ : S25) (Nat.le_refl _) (Kd.F_nil _ _ _))) (Reps.c3 (show Kd.FK k25 _ _ (⟨2, (⟨#[105]⟩ : ByteArray), ([] : List (S99))⟩ : S25) [.int .i64 2, .string (⟨#[105]⟩ : ByteArray), .slice none 0 0] from (k25_mkF _ _ (⟨2, (⟨#[105]⟩ : ByteArray), ([] : List (S99))⟩ : S25) (Nat.le_refl _) (Kd.F_nil _ _ _))) (Reps.none _ _)))); intro v226 w35 ho36 hb hg_ hnew_; clear hg_ hnew_; (first | rw [← Ny225.out] at ho36 | (simp only [Int.reduceToNat] at ho36; rw [← Ny225.out] at ho36)); have n0_ := aS (Kd.N_elder' (by (with_reducible repeat (first | apply nA | apply nN | apply nD)); exact HO220.out) (Kd.N_base ho36) hb); have n1_ := aS (Kd.N_elder' (by (with_reducible repeat (first | apply nA | apply nN | apply nD)); exact HO223.out) (Kd.N_base ho36) hb); have n2_ := aS (Kd.N_lower ho36 (below_size (by repeat (first | (with_reducible first | exact HB.out | apply bA | apply bN | apply bD | refine bS ?_ GE217.out) | exact HB.out)))); have n3_ := aS (blk_below (g := gb217) (o := .cells #[.int .i64 1, .string (⟨#[98]⟩ : ByteArray), .slice none 0 0] 25 (0, 0)) (by (with_reducible repeat (first | refine kN ?_ _ | refine kD ?_ | refine kA ?_ _)); exact BK217.out) hb); have n4_ := aS (below_step (by repeat (first | (with_reducible first | exact HB.out | apply bA | apply bN | apply bD | refine bS ?_ GE217.out) | exact HB.out)) hb); clear HO220; clear HO223; clear BK217; clear HB; have HO220 := n0_; have HO223 := n1_; have HO227 := n2_; have BK217 := n3_; have HB := n4_; clear n0_ n1_ n2_ n3_ n4_; clear hb ho36) | ((with_reducible refine gate_dst (N := 20) rfl ?_); (try (refine gate_guard (by rfl) ?_; dsimp only)); refine Kd.R_lit (Kd.int .i64) _ 3 ?hg (N := 20) ?hd (xs := ([1] : List Int)) (inner := [.int .i64 1]) (ok := fun _ => True) (okp := fun _ => True) ?hr ?hp (fun _ hk => hk) trivial (Below.refl _ _) (Nat.le_refl _) (by simp) ?_; (case hd => rfl); (case hg => rfl); (case hr => first | (go_simp; done) | (go_simp; rfl)); (case hp => exact (Reps.one (show Kd.M (Kd.int .i64) _ _ _ 1 [.int .i64 1] from rfl) (Reps.none _ _))); intro v229 w37 ho38 hb hg_ hnew_; clear hg_ hnew_; (first | rw [← Ny228.out] at ho38 | (simp only [Int.reduceToNat] at ho38; rw [← Ny228.out] at ho38)); have n0_ := aS (Kd.N_elder' (by (with_reducible repeat (first | apply nA | apply nN | apply nD)); exact HO220.out) (Kd.R_base ho38) hb); have n1_ := aS (Kd.N_elder' (by (with_reducible repeat (first | apply nA | apply nN | apply nD)); exact HO223.out) (Kd.R_base ho38) hb); have n2_ := aS (Kd.N_elder' (by (with_reducible repeat (first | apply nA | apply nN | apply nD)); exact HO227.out) (Kd.R_base ho38) hb); have n3_ := aS (Kd.R_lower ho38 (below_size (by repeat (first | (with_reducible first | exact HB.out | apply bA | apply bN | apply bD | refine bS ?_ GE217.out) | exact HB.out)))); have n4_ := aS (blk_below (g := gb217) (o := .cells #[.int .i64 1, .string (⟨#[98]⟩ : ByteArray), .slice none 0 0] 25 (0, 0)) (by (with_reducible repeat (first | refine kN ?_ _ | refine kD ?_ | refine kA ?_ _)); exact BK217.out) hb); have n5_ := aS (below_step (by repeat (first | (with_reducible first | exact HB.out | apply bA | apply bN | apply bD | refine bS ?_ GE217.out) | exact HB.out)) hb); clear HO220; clear HO223; clear HO227; clear BK217; clear HB; have HO220 := n0_; have HO223 := n1_; have HO227 := n2_; have HO230 := n3_; have BK217 := n4_; have HB := n5_; clear n0_ n1_ n2_ n3_ n4_ n5_; clear hb ho38; obtain ⟨Ao39, co39, eo39⟩ := Kd.N_slice HO227.out; subst eo39; obtain ⟨Ao40, co40, eo40⟩ := Kd.R_slice HO230.out; subst eo40) | ((with_reducible refine gate_callee (f := 23) rfl ?_); refine goesL_ (some 21) rfl rfl Try.func23 (by kernel_rfl) rfl #[.slice Ao39 y225.length co39, .slice Ao40 y228.length co40] rfl (by (try simp only [List.map_toArray, List.map_cons, List.map_nil]); first | done | rfl | (simp only [List.length_drop, List.length_take]; rfl)) ?_; (with_reducible refine (active_Again.calls k _ _ y225 _ _ y228 t231 t232 _ ?side1 ?side2 ?side3 ?side4 A2.out).mono ?_); (case side1 => repeat (first | exact (Kd.N_reads' HO227.out).2.2 | (with_reducible refine cA ?_ _) | (with_reducible refine cN ?_ _) | (with_reducible refine cD ?_))); (case side2 => exact (Kd.N_reads' HO227.out).2.1); (case side3 => repeat (first | exact (Kd.R_reads' HO230.out).2.2 | (with_reducible refine cA ?_ _) | (with_reducible refine cN ?_ _) | (with_reducible refine cD ?_))); (case side4 => exact (Kd.R_reads' HO230.out).2.1); rintro e w41 ⟨v233, rfl, ho0, hb⟩; refine ⟨_, rfl, ?_⟩; have n0_ := aS (Kd.N_elder' (by (with_reducible repeat (first | apply nA | apply nN | apply nD)); exact HO220.out) (Kd.R_base ho0) hb); have n1_ := aS (Kd.N_elder' (by (with_reducible repeat (first | apply nA | apply nN | apply nD)); exact HO223.out) (Kd.R_base ho0) hb); have n2_ := aS (Kd.N_elder' (by (with_reducible repeat (first | apply nA | apply nN | apply nD)); exact HO227.out) (Kd.R_base ho0) hb); have n3_ := aS (Kd.R_elder' (by (with_reducible repeat (first | apply rA | apply rN | apply rD)); exact HO230.out) (Kd.R_base ho0) hb); have n4_ := aS (Kd.R_lower (Kd.R_new' ho0 (Kd.R_lt (by (with_reducible repeat (first | apply rA | apply rN | apply rD)); exact HO230.out))) (below_size (by repeat (first | (with_reducible first | exact HB.out | apply bA | apply bN | apply bD | refine bS ?_ GE217.out) | exact HB.out)))); have n5_ := aS (blk_below (g := gb217) (o := .cells #[.int .i64 1, .string (⟨#[98]⟩ : ByteArray), .slice none 0 0] 25 (0, 0)) (by (with_reducible repeat (first | refine kN ?_ _ | refine kD ?_ | refine kA ?_ _)); exact BK217.out) hb); have n6_ := aS (below_step (by repeat (first | (with_reducible first | exact HB.out | apply bA | apply bN | apply bD | refine bS ?_ GE217.out) | exact HB.out)) hb); clear HO220; clear HO223; clear HO227; clear HO230; clear BK217; clear HB; have HO220 := n0_; have HO223 := n1_; have HO227 := n2_; have HO230 := n3_; have HO234 := n4_; have BK217 := n5_; have HB := n6_; clear n0_ n1_ n2_ n3_ n4_ n5_ n6_; (try clear hb); (try clear hb2); (try clear hk); (try clear hi); (try clear ho0); obtain ⟨Ao42, co42, eo42⟩ := Kd.N_slice HO223.out; subst eo42; have p235 : 0 ≤ (2 : Int) := (by omega); have q235 : 2 < (t221.length : Int) := od (by first | (with_reducible assumption) | assumption); obtain ⟨ad235, A235_2, c235_2, e235, hx235_0, hx235_1, hx235_2, hl235_2, hi235_2⟩ := at_T25 (Kd.N_reads' HO223.out).2.2 2 p235 q235; cases e235; obtain ⟨ce235, hce235, hMe235, hcc235⟩ := Kd.N_get HO223.out z25 2 p235 (by first | exact q235 | exact od (by first | (with_reducible assumption) | assumption) | (have e_ := (Kd.N_reads' HO223.out).1; omega)); obtain ⟨ua235_2, uc235_2, rfl, ul235_2, ge235_2⟩ := k25_openF hMe235; have hv235_2 := hcc235 2 _ rfl; rw [add_field _ _ 2 (by omega)] at hv235_2; replace hv235_2 := Option.some.inj (hv235_2.symm.trans hx235_2); injection hv235_2 with hva_ hvn_ hvc_; rw [hva_] at ge235_2; rw [hvc_] at ul235_2; have HL235_2 := aS (show Kd.V k99 99 _ w.heap.size _ _ ((rd_T25 t221 2).f2) from Kd.V_mk ul235_2 ge235_2); clear hva_ hvn_ hvc_ ge235_2 ul235_2; clear hcc235 hce235; (try simp only [show (2 : Int).toNat = 2 from rfl, Nat.reduceMul, Nat.reduceEqDiff, Go.Addr.add, ↓reduceIte] at hx235_0); (try simp only [show (2 : Int).toNat = 2 from rfl, Nat.reduceMul, Nat.reduceEqDiff, Go.Addr.add, ↓reduceIte] at hx235_1); (try simp only [show (2 : Int).toNat = 2 from rfl, Nat.reduceMul, Nat.reduceEqDiff, Go.Addr.add, ↓reduceIte] at hx235_2); have qi235 : (2 < t221.length) = True := eq_true (by omega); (try rw [show ((2 : Int)).toNat = 2 from rfl] at hx235_0); (try rw [show 2 * 3 = 6 from rfl] at hx235_0); (try rw [show ((2 : Int)).toNat = 2 from rfl] at hx235_1); (try rw [show 2 * 3 = 6 from rfl] at hx235_1); (try rw [show ((2 : Int)).toNat = 2 from rfl] at hx235_2); (try rw [show 2 * 3 = 6 from rfl] at hx235_2); have HR235_2 := aS hi235_2; have HC235_2 := aS hl235_2; clear hi235_2 hl235_2; replace p235 := eq_true p235; replace q235 := eq_true q235))
      go_ret
      exact ⟨by first | rfl | (simp [errW_none, errW_some] <;> rfl) | (simp [*, errW_none, errW_some] <;> rfl), by repeat (first | (with_reducible first | exact HB.out | apply bA | apply bN | apply bD | refine bS ?_ GE217.out) | exact HB.out)⟩
    ·rw [if_neg c6] at H
     have c6b0 : (((rd_T25 t221 2).f0) == 4) = false := beq_eq_false_iff_ne.mpr c6
     have c6b1 : (((rd_T25 t221 2).f0) != 4) = true := bne_iff_ne.mpr c6
     obtain rfl := Option.some.inj H
     go_enter Try.func15, Try.ntmps15
     go_wp2_with (first | ((with_reducible refine gate_dst (N := 1) rfl ?_); (try (refine gate_guard (by rfl) ?_; dsimp only)); refine box_event ?hg (N := 1) ?hd (cs := #[.int .i64 0, .string (⟨#[]⟩ : ByteArray), .slice none 0 0]) (t := 25) ?hr ?_; (case hd => rfl); (case hg => rfl); (case hr => first | (go_simp; done) | (go_simp; rfl)); intro gb217 hg w43 hbox hb; have n0_ := aS (below_step (by repeat (first | (with_reducible first | exact HB.out | apply bA | apply bN | apply bD) | exact HB.out)) hb); have n1_ := aS (hbox); have n2_ := aS ((by rw [hg]; exact (below_size (by repeat (first | (with_reducible first | exact HB.out | apply bA | apply bN | apply bD) | exact HB.out))) : w.heap.size ≤ gb217)); have n3_ := aS ((by rw [hg]; exact (below_size (by repeat (first | (with_reducible first | exact HB.out | apply bA | apply bN | apply bD) | exact HB.out))) : w.heap.size ≤ gb217)); clear HB; have HB := n0_; have BK217 := n1_; have GW217 := n2_; have GE217 := n3_; clear n0_ n1_ n2_ n3_; clear hb hbox hg; have hcz44_0 : w43.cell? ⟨gb217, 0, none⟩ = some (.int .i64 0) := (blk_cell BK217.out 0).trans rfl; have hcz44_1 : w43.cell? ⟨gb217, 1, none⟩ = some (.string (⟨#[]⟩ : ByteArray)) := (blk_cell BK217.out 1).trans rfl; have hcz44_2 : w43.cell? ⟨gb217, 2, none⟩ = some (.slice none 0 0) := (blk_cell BK217.out 2).trans rfl; have hfz44_0 := blk_frozen BK217.out 0; have hfz44_1 := blk_frozen BK217.out 1; have hfz44_2 := blk_frozen BK217.out 2) | ((with_reducible refine gate_dst (N := 11) rfl ?_); (try (refine gate_guard (by rfl) ?_; dsimp only)); refine Kd.N_lit k25 _ 25 ?hg (N' := 11) ?hd (xs := ([(⟨1, (⟨#[98]⟩ : ByteArray), ([] : List (S99))⟩ : S25), (⟨1, (⟨#[98]⟩ : ByteArray), ([] : List (S99))⟩ : S25), (⟨1, (⟨#[98]⟩ : ByteArray), ([] : List (S99))⟩ : S25)] : List (S25))) (inner := [.int .i64 1, .string (⟨#[98]⟩ : ByteArray), .slice none 0 0, .int .i64 1, .string (⟨#[98]⟩ : ByteArray), .slice none 0 0, .int .i64 1, .string (⟨#[98]⟩ : ByteArray), .slice none 0 0]) (ok := (fun k_ => k_ ≠ gb217)) (okp := (fun k_ => k_ ≠ gb217)) ?hr ?hp (fun _ hk => hk) ((show ∀ k_, w43.heap.size ≤ k_ → (fun k_ => k_ ≠ gb217) k_ from fun k_ hk => (by first | exact Kd.freshB (g := gb217) BK217.out k_ hk | exact Kd.freshB (g := gb217) (o := .cells #[.int .i64 1, .string (⟨#[98]⟩ : ByteArray), .slice none 0 0] 25 (0, 0)) (by (with_reducible repeat (first | refine kN ?_ _ | refine kD ?_ | refine kA ?_ _)); refine blk_put (cs := #[.int .i64 1, .string (⟨#[98]⟩ : ByteArray), .slice none 0 0]) ?_ 2 _ rfl; (with_reducible repeat (first | refine kN ?_ _ | refine kD ?_ | refine kA ?_ _)); refine blk_put (cs := #[.int .i64 1, .string (⟨#[]⟩ : ByteArray), .slice none 0 0]) ?_ 1 _ rfl; (with_reducible repeat (first | refine kN ?_ _ | refine kD ?_ | refine kA ?_ _)); refine blk_put (cs := #[.int .i64 0, .string (⟨#[]⟩ : ByteArray), .slice none 0 0]) ?_ 0 _ rfl; (with_reducible repeat (first | refine kN ?_ _ | refine kD ?_ | refine kA ?_ _)); exact BK217.out) k_ hk)) _ (by first | exact Nat.le_refl _ | simp)) (Below.refl _ _) (Nat.le_refl _) (by simp) ?_; (case hd => rfl); (case hg => rfl); (case hr => first | (go_simp; done) | (go_simp; rfl)); (case hp => exact (Reps.c3 (show Kd.FK k25 _ _ (⟨1, (⟨#[98]⟩ : ByteArray), ([] : List (S99))⟩ : S25) [.int .i64 1, .string (⟨#[98]⟩ : ByteArray), .slice none 0 0] from (k25_mkF _ _ (⟨1, (⟨#[98]⟩ : ByteArray), ([] : List (S99))⟩ : S25) (Nat.le_refl _) (Kd.F_nil _ _ _))) (Reps.c3 (show Kd.FK k25 _ _ (⟨1, (⟨#[98]⟩ : ByteArray), ([] : List (S99))⟩ : S25) [.int .i64 1, .string (⟨#[98]⟩ : ByteArray), .slice none 0 0] from (k25_mkF _ _ (⟨1, (⟨#[98]⟩ : ByteArray), ([] : List (S99))⟩ : S25) (Nat.le_refl _) (Kd.F_nil _ _ _))) (Reps.c3 (show Kd.FK k25 _ _ (⟨1, (⟨#[98]⟩ : ByteArray), ([] : List (S99))⟩ : S25) [.int .i64 1, .string (⟨#[98]⟩ : ByteArray), .slice none 0 0] from (k25_mkF _ _ (⟨1, (⟨#[98]⟩ : ByteArray), ([] : List (S99))⟩ : S25) (Nat.le_refl _) (Kd.F_nil _ _ _))) (Reps.none _ _))))); intro v219 w45 ho46 hb hg_ hnew_; clear hg_ hnew_; (first | rw [← Ny218.out] at ho46 | (simp only [Int.reduceToNat] at ho46; rw [← Ny218.out] at ho46)); have n0_ := aS (Kd.N_lower ho46 (below_size (by repeat (first | (with_reducible first | exact HB.out | apply bA | apply bN | apply bD | refine bS ?_ GE217.out) | exact HB.out)))); have n1_ := aS (blk_below (g := gb217) (o := .cells #[.int .i64 1, .string (⟨#[98]⟩ : ByteArray), .slice none 0 0] 25 (0, 0)) (by (with_reducible repeat (first | refine kN ?_ _ | refine kD ?_ | refine kA ?_ _)); refine blk_put (cs := #[.int .i64 1, .string (⟨#[98]⟩ : ByteArray), .slice none 0 0]) ?_ 2 _ rfl; (with_reducible repeat (first | refine kN ?_ _ | refine kD ?_ | refine kA ?_ _)); refine blk_put (cs := #[.int .i64 1, .string (⟨#[]⟩ : ByteArray), .slice none 0 0]) ?_ 1 _ rfl; (with_reducible repeat (first | refine kN ?_ _ | refine kD ?_ | refine kA ?_ _)); refine blk_put (cs := #[.int .i64 0, .string (⟨#[]⟩ : ByteArray), .slice none 0 0]) ?_ 0 _ rfl; (with_reducible repeat (first | refine kN ?_ _ | refine kD ?_ | refine kA ?_ _)); exact BK217.out) hb); have n2_ := aS (below_step (by repeat (first | (with_reducible first | exact HB.out | apply bA | apply bN | apply bD | refine bS ?_ GE217.out) | exact HB.out)) hb); clear BK217; clear HB; have HO220 := n0_; have BK217 := n1_; have HB := n2_; clear n0_ n1_ n2_; clear hb ho46; obtain ⟨Ao47, co47, eo47⟩ := Kd.N_slice HO220.out; subst eo47) | ((with_reducible refine gate_callee (f := 10) rfl ?_); refine goesL_ (some 13) rfl rfl Try.func10 (by kernel_rfl) rfl #[.slice Ao47 y218.length co47, .agg #[.int .i64 4, .string (⟨#[98]⟩ : ByteArray), .slice none 0 0]] rfl (by (try simp only [List.map_toArray, List.map_cons, List.map_nil]); first | done | rfl | (simp only [List.length_drop, List.length_take]; rfl)) ?_; (refine (active_Push.calls k (fun k_ => k_ ≠ gb217) _ _ y218 4 (⟨#[98]⟩ : ByteArray) (fun k_ => False) _ _ ([] : List (S99)) t221 t224 _ ?side1 ?side2 A1.out).mono ?_); (case side1 => exact Kd.N_V (HO220.out)); (case side2 => exact Kd.V_nil _ _ _ _ _); rintro e w48 ⟨v222, rfl, ho0, hb⟩; refine ⟨_, rfl, ?_⟩; have n0_ := aS (Kd.N_elder' (by (with_reducible repeat (first | apply nA | apply nN | apply nD)); exact HO220.out) (Kd.N_base ho0) hb); have n1_ := aS (Kd.N_lower (Kd.N_mono (ok' := fun k_ => k_ ≠ gb217) ho0 (fun k_ hk_ => Or.elim hk_ (fun hs_ => Or.elim hs_ (fun hs_ => hs_) (fun hs_ => (hs_).elim)) (fun hn_ => (Kd.freshB (g := gb217) (o := .cells #[.int .i64 1, .string (⟨#[98]⟩ : ByteArray), .slice none 0 0] 25 (0, 0)) (by (with_reducible repeat (first | refine kN ?_ _ | refine kD ?_ | refine kA ?_ _)); exact BK217.out) k_ hn_)))) (below_size (by repeat (first | (with_reducible first | exact HB.out | apply bA | apply bN | apply bD | refine bS ?_ GE217.out) | exact HB.out)))); have n2_ := aS (blk_below (g := gb217) (o := .cells #[.int .i64 1, .string (⟨#[98]⟩ : ByteArray), .slice none 0 0] 25 (0, 0)) (by (with_reducible repeat (first | refine kN ?_ _ | refine kD ?_ | refine kA ?_ _)); exact BK217.out) hb); have n3_ := aS (below_step (by repeat (first | (with_reducible first | exact HB.out | apply bA | apply bN | apply bD | refine bS ?_ GE217.out) | exact HB.out)) hb); clear HO220; clear BK217; clear HB; have HO220 := n0_; have HO223 := n1_; have BK217 := n2_; have HB := n3_; clear n0_ n1_ n2_ n3_; (try clear hb); (try clear hb2); (try clear hk); (try clear hi); (try clear ho0); have hcz49_0 : w48.cell? ⟨gb217, 0, none⟩ = some (.int .i64 1) := (blk_cell BK217.out 0).trans rfl; have hcz49_1 : w48.cell? ⟨gb217, 1, none⟩ = some (.string (⟨#[98]⟩ : ByteArray)) := (blk_cell BK217.out 1).trans rfl; have hcz49_2 : w48.cell? ⟨gb217, 2, none⟩ = some (.slice none 0 0) := (blk_cell BK217.out 2).trans rfl; have hfz49_0 := blk_frozen BK217.out 0; have hfz49_1 := blk_frozen BK217.out 1; have hfz49_2 := blk_frozen BK217.out 2) | ((with_reducible refine gate_dst (N := 19) rfl ?_); (try (refine gate_guard (by rfl) ?_; dsimp only)); refine Kd.N_lit k25 _ 25 ?hg (N' := 19) ?hd (xs := ([(⟨1, (⟨#[98]⟩ : ByteArray), ([] : List (S99))⟩ : S25), (⟨2, (⟨#[105]⟩ : ByteArray), ([] : List (S99))⟩ : S25)] : List (S25))) (inner := [.int .i64 1, .string (⟨#[98]⟩ : ByteArray), .slice none 0 0, .int .i64 2, .string (⟨#[105]⟩ : ByteArray), .slice none 0 0]) (ok := (fun k_ => some k_ ≠ (.slice Ao47 y218.length co47 : Value).ownBlock ∧ some k_ ≠ (v222 : Value).ownBlock ∧ k_ ≠ gb217)) (okp := (fun k_ => some k_ ≠ (.slice Ao47 y218.length co47 : Value).ownBlock ∧ some k_ ≠ (v222 : Value).ownBlock ∧ k_ ≠ gb217)) ?hr ?hp (fun _ hk => hk) ((show ∀ k_, w48.heap.size ≤ k_ → (fun k_ => some k_ ≠ (.slice Ao47 y218.length co47 : Value).ownBlock ∧ some k_ ≠ (v222 : Value).ownBlock ∧ k_ ≠ gb217) k_ from fun k_ hk => ⟨Kd.fresh' (Kd.N_lt (by (with_reducible repeat (first | apply nA | apply nN | apply nD)); exact HO220.out)) k_ hk, Kd.fresh' (Kd.N_lt (by (with_reducible repeat (first | apply nA | apply nN | apply nD)); exact HO223.out)) k_ hk, Kd.freshB (g := gb217) (o := .cells #[.int .i64 1, .string (⟨#[98]⟩ : ByteArray), .slice none 0 0] 25 (0, 0)) (by (with_reducible repeat (first | refine kN ?_ _ | refine kD ?_ | refine kA ?_ _)); exact BK217.out) k_ hk⟩) _ (by first | exact Nat.le_refl _ | simp)) (Below.refl _ _) (Nat.le_refl _) (by simp) ?_; (case hd => rfl); (case hg => rfl); (case hr => first | (go_simp; done) | (go_simp; rfl)); (case hp => exact (Reps.c3 (show Kd.FK k25 _ _ (⟨1, (⟨#[98]⟩ : ByteArray), ([] : List (S99))⟩ : S25) [.int .i64 1, .string (⟨#[98]⟩ : ByteArray), .slice none 0 0] from (k25_mkF _ _ (⟨1, (⟨#[98]⟩ : ByteArray), ([] : List (S99))⟩ : S25) (Nat.le_refl _) (Kd.F_nil _ _ _))) (Reps.c3 (show Kd.FK k25 _ _ (⟨2, (⟨#[105]⟩ : ByteArray), ([] : List (S99))⟩ : S25) [.int .i64 2, .string (⟨#[105]⟩ : ByteArray), .slice none 0 0] from (k25_mkF _ _ (⟨2, (⟨#[105]⟩ : ByteArray), ([] : List (S99))⟩ : S25) (Nat.le_refl _) (Kd.F_nil _ _ _))) (Reps.none _ _)))); intro v226 w50 ho51 hb hg_ hnew_; clear hg_ hnew_; (first | rw [← Ny225.out] at ho51 | (simp only [Int.reduceToNat] at ho51; rw [← Ny225.out] at ho51)); have n0_ := aS (Kd.N_elder' (by (with_reducible repeat (first | apply nA | apply nN | apply nD)); exact HO220.out) (Kd.N_base ho51) hb); have n1_ := aS (Kd.N_elder' (by (with_reducible repeat (first | apply nA | apply nN | apply nD)); exact HO223.out) (Kd.N_base ho51) hb); have n2_ := aS (Kd.N_lower ho51 (below_size (by repeat (first | (with_reducible first | exact HB.out | apply bA | apply bN | apply bD | refine bS ?_ GE217.out) | exact HB.out)))); have n3_ := aS (blk_below (g := gb217) (o := .cells #[.int .i64 1, .string (⟨#[98]⟩ : ByteArray), .slice none 0 0] 25 (0, 0)) (by (with_reducible repeat (first | refine kN ?_ _ | refine kD ?_ | refine kA ?_ _)); exact BK217.out) hb); have n4_ := aS (below_step (by repeat (first | (with_reducible first | exact HB.out | apply bA | apply bN | apply bD | refine bS ?_ GE217.out) | exact HB.out)) hb); clear HO220; clear HO223; clear BK217; clear HB; have HO220 := n0_; have HO223 := n1_; have HO227 := n2_; have BK217 := n3_; have HB := n4_; clear n0_ n1_ n2_ n3_ n4_; clear hb ho51) | ((with_reducible refine gate_dst (N := 20) rfl ?_); (try (refine gate_guard (by rfl) ?_; dsimp only)); refine Kd.R_lit (Kd.int .i64) _ 3 ?hg (N := 20) ?hd (xs := ([1] : List Int)) (inner := [.int .i64 1]) (ok := fun _ => True) (okp := fun _ => True) ?hr ?hp (fun _ hk => hk) trivial (Below.refl _ _) (Nat.le_refl _) (by simp) ?_; (case hd => rfl); (case hg => rfl); (case hr => first | (go_simp; done) | (go_simp; rfl)); (case hp => exact (Reps.one (show Kd.M (Kd.int .i64) _ _ _ 1 [.int .i64 1] from rfl) (Reps.none _ _))); intro v229 w52 ho53 hb hg_ hnew_; clear hg_ hnew_; (first | rw [← Ny228.out] at ho53 | (simp only [Int.reduceToNat] at ho53; rw [← Ny228.out] at ho53)); have n0_ := aS (Kd.N_elder' (by (with_reducible repeat (first | apply nA | apply nN | apply nD)); exact HO220.out) (Kd.R_base ho53) hb); have n1_ := aS (Kd.N_elder' (by (with_reducible repeat (first | apply nA | apply nN | apply nD)); exact HO223.out) (Kd.R_base ho53) hb); have n2_ := aS (Kd.N_elder' (by (with_reducible repeat (first | apply nA | apply nN | apply nD)); exact HO227.out) (Kd.R_base ho53) hb); have n3_ := aS (Kd.R_lower ho53 (below_size (by repeat (first | (with_reducible first | exact HB.out | apply bA | apply bN | apply bD | refine bS ?_ GE217.out) | exact HB.out)))); have n4_ := aS (blk_below (g := gb217) (o := .cells #[.int .i64 1, .string (⟨#[98]⟩ : ByteArray), .slice none 0 0] 25 (0, 0)) (by (with_reducible repeat (first | refine kN ?_ _ | refine kD ?_ | refine kA ?_ _)); exact BK217.out) hb); have n5_ := aS (below_step (by repeat (first | (with_reducible first | exact HB.out | apply bA | apply bN | apply bD | refine bS ?_ GE217.out) | exact HB.out)) hb); clear HO220; clear HO223; clear HO227; clear BK217; clear HB; have HO220 := n0_; have HO223 := n1_; have HO227 := n2_; have HO230 := n3_; have BK217 := n4_; have HB := n5_; clear n0_ n1_ n2_ n3_ n4_ n5_; clear hb ho53; obtain ⟨Ao54, co54, eo54⟩ := Kd.N_slice HO227.out; subst eo54; obtain ⟨Ao55, co55, eo55⟩ := Kd.R_slice HO230.out; subst eo55) | ((with_reducible refine gate_callee (f := 23) rfl ?_); refine goesL_ (some 21) rfl rfl Try.func23 (by kernel_rfl) rfl #[.slice Ao54 y225.length co54, .slice Ao55 y228.length co55] rfl (by (try simp only [List.map_toArray, List.map_cons, List.map_nil]); first | done | rfl | (simp only [List.length_drop, List.length_take]; rfl)) ?_; (with_reducible refine (active_Again.calls k _ _ y225 _ _ y228 t231 t232 _ ?side1 ?side2 ?side3 ?side4 A2.out).mono ?_); (case side1 => repeat (first | exact (Kd.N_reads' HO227.out).2.2 | (with_reducible refine cA ?_ _) | (with_reducible refine cN ?_ _) | (with_reducible refine cD ?_))); (case side2 => exact (Kd.N_reads' HO227.out).2.1); (case side3 => repeat (first | exact (Kd.R_reads' HO230.out).2.2 | (with_reducible refine cA ?_ _) | (with_reducible refine cN ?_ _) | (with_reducible refine cD ?_))); (case side4 => exact (Kd.R_reads' HO230.out).2.1); rintro e w56 ⟨v233, rfl, ho0, hb⟩; refine ⟨_, rfl, ?_⟩; have n0_ := aS (Kd.N_elder' (by (with_reducible repeat (first | apply nA | apply nN | apply nD)); exact HO220.out) (Kd.R_base ho0) hb); have n1_ := aS (Kd.N_elder' (by (with_reducible repeat (first | apply nA | apply nN | apply nD)); exact HO223.out) (Kd.R_base ho0) hb); have n2_ := aS (Kd.N_elder' (by (with_reducible repeat (first | apply nA | apply nN | apply nD)); exact HO227.out) (Kd.R_base ho0) hb); have n3_ := aS (Kd.R_elder' (by (with_reducible repeat (first | apply rA | apply rN | apply rD)); exact HO230.out) (Kd.R_base ho0) hb); have n4_ := aS (Kd.R_lower (Kd.R_new' ho0 (Kd.R_lt (by (with_reducible repeat (first | apply rA | apply rN | apply rD)); exact HO230.out))) (below_size (by repeat (first | (with_reducible first | exact HB.out | apply bA | apply bN | apply bD | refine bS ?_ GE217.out) | exact HB.out)))); have n5_ := aS (blk_below (g := gb217) (o := .cells #[.int .i64 1, .string (⟨#[98]⟩ : ByteArray), .slice none 0 0] 25 (0, 0)) (by (with_reducible repeat (first | refine kN ?_ _ | refine kD ?_ | refine kA ?_ _)); exact BK217.out) hb); have n6_ := aS (below_step (by repeat (first | (with_reducible first | exact HB.out | apply bA | apply bN | apply bD | refine bS ?_ GE217.out) | exact HB.out)) hb); clear HO220; clear HO223; clear HO227; clear HO230; clear BK217; clear HB; have HO220 := n0_; have HO223 := n1_; have HO227 := n2_; have HO230 := n3_; have HO234 := n4_; have BK217 := n5_; have HB := n6_; clear n0_ n1_ n2_ n3_ n4_ n5_ n6_; (try clear hb); (try clear hb2); (try clear hk); (try clear hi); (try clear ho0); obtain ⟨Ao57, co57, eo57⟩ := Kd.N_slice HO223.out; subst eo57; have p235 : 0 ≤ (2 : Int) := (by omega); have q235 : 2 < (t221.length : Int) := od (by first | (with_reducible assumption) | assumption); obtain ⟨ad235, A235_2, c235_2, e235, hx235_0, hx235_1, hx235_2, hl235_2, hi235_2⟩ := at_T25 (Kd.N_reads' HO223.out).2.2 2 p235 q235; cases e235; obtain ⟨ce235, hce235, hMe235, hcc235⟩ := Kd.N_get HO223.out z25 2 p235 (by first | exact q235 | exact od (by first | (with_reducible assumption) | assumption) | (have e_ := (Kd.N_reads' HO223.out).1; omega)); obtain ⟨ua235_2, uc235_2, rfl, ul235_2, ge235_2⟩ := k25_openF hMe235; have hv235_2 := hcc235 2 _ rfl; rw [add_field _ _ 2 (by omega)] at hv235_2; replace hv235_2 := Option.some.inj (hv235_2.symm.trans hx235_2); injection hv235_2 with hva_ hvn_ hvc_; rw [hva_] at ge235_2; rw [hvc_] at ul235_2; have HL235_2 := aS (show Kd.V k99 99 _ w.heap.size _ _ ((rd_T25 t221 2).f2) from Kd.V_mk ul235_2 ge235_2); clear hva_ hvn_ hvc_ ge235_2 ul235_2; clear hcc235 hce235; (try simp only [show (2 : Int).toNat = 2 from rfl, Nat.reduceMul, Nat.reduceEqDiff, Go.Addr.add, ↓reduceIte] at hx235_0); (try simp only [show (2 : Int).toNat = 2 from rfl, Nat.reduceMul, Nat.reduceEqDiff, Go.Addr.add, ↓reduceIte] at hx235_1); (try simp only [show (2 : Int).toNat = 2 from rfl, Nat.reduceMul, Nat.reduceEqDiff, Go.Addr.add, ↓reduceIte] at hx235_2); have qi235 : (2 < t221.length) = True := eq_true (by omega); (try rw [show ((2 : Int)).toNat = 2 from rfl] at hx235_0); (try rw [show 2 * 3 = 6 from rfl] at hx235_0); (try rw [show ((2 : Int)).toNat = 2 from rfl] at hx235_1); (try rw [show 2 * 3 = 6 from rfl] at hx235_1); (try rw [show ((2 : Int)).toNat = 2 from rfl] at hx235_2); (try rw [show 2 * 3 = 6 from rfl] at hx235_2); have HR235_2 := aS hi235_2; have HC235_2 := aS hl235_2; clear hi235_2 hl235_2; replace p235 := eq_true p235; replace q235 := eq_true q235))
     go_ret
     exact ⟨by first | rfl | (simp [errW_none, errW_some] <;> rfl) | (simp [*, errW_none, errW_some] <;> rfl), by repeat (first | (with_reducible first | exact HB.out | apply bA | apply bN | apply bD | refine bS ?_ GE217.out) | exact HB.out)⟩
   ·rw [if_neg c5] at H
    exact absurd H (by simp)
  ·rw [if_neg c4] at H
   have c4b0 : ((t221.length : Int) == 3) = false := beq_eq_false_iff_ne.mpr c4
   have c4b1 : ((t221.length : Int) != 3) = true := bne_iff_ne.mpr c4
   obtain rfl := Option.some.inj H
   go_enter Try.func15, Try.ntmps15
   go_wp2_with (first | ((with_reducible refine gate_dst (N := 1) rfl ?_); (try (refine gate_guard (by rfl) ?_; dsimp only)); refine box_event ?hg (N := 1) ?hd (cs := #[.int .i64 0, .string (⟨#[]⟩ : ByteArray), .slice none 0 0]) (t := 25) ?hr ?_; (case hd => rfl); (case hg => rfl); (case hr => first | (go_simp; done) | (go_simp; rfl)); intro gb217 hg w58 hbox hb; have n0_ := aS (below_step (by repeat (first | (with_reducible first | exact HB.out | apply bA | apply bN | apply bD) | exact HB.out)) hb); have n1_ := aS (hbox); have n2_ := aS ((by rw [hg]; exact (below_size (by repeat (first | (with_reducible first | exact HB.out | apply bA | apply bN | apply bD) | exact HB.out))) : w.heap.size ≤ gb217)); have n3_ := aS ((by rw [hg]; exact (below_size (by repeat (first | (with_reducible first | exact HB.out | apply bA | apply bN | apply bD) | exact HB.out))) : w.heap.size ≤ gb217)); clear HB; have HB := n0_; have BK217 := n1_; have GW217 := n2_; have GE217 := n3_; clear n0_ n1_ n2_ n3_; clear hb hbox hg; have hcz59_0 : w58.cell? ⟨gb217, 0, none⟩ = some (.int .i64 0) := (blk_cell BK217.out 0).trans rfl; have hcz59_1 : w58.cell? ⟨gb217, 1, none⟩ = some (.string (⟨#[]⟩ : ByteArray)) := (blk_cell BK217.out 1).trans rfl; have hcz59_2 : w58.cell? ⟨gb217, 2, none⟩ = some (.slice none 0 0) := (blk_cell BK217.out 2).trans rfl; have hfz59_0 := blk_frozen BK217.out 0; have hfz59_1 := blk_frozen BK217.out 1; have hfz59_2 := blk_frozen BK217.out 2) | ((with_reducible refine gate_dst (N := 11) rfl ?_); (try (refine gate_guard (by rfl) ?_; dsimp only)); refine Kd.N_lit k25 _ 25 ?hg (N' := 11) ?hd (xs := ([(⟨1, (⟨#[98]⟩ : ByteArray), ([] : List (S99))⟩ : S25), (⟨1, (⟨#[98]⟩ : ByteArray), ([] : List (S99))⟩ : S25), (⟨1, (⟨#[98]⟩ : ByteArray), ([] : List (S99))⟩ : S25)] : List (S25))) (inner := [.int .i64 1, .string (⟨#[98]⟩ : ByteArray), .slice none 0 0, .int .i64 1, .string (⟨#[98]⟩ : ByteArray), .slice none 0 0, .int .i64 1, .string (⟨#[98]⟩ : ByteArray), .slice none 0 0]) (ok := (fun k_ => k_ ≠ gb217)) (okp := (fun k_ => k_ ≠ gb217)) ?hr ?hp (fun _ hk => hk) ((show ∀ k_, w58.heap.size ≤ k_ → (fun k_ => k_ ≠ gb217) k_ from fun k_ hk => (by first | exact Kd.freshB (g := gb217) BK217.out k_ hk | exact Kd.freshB (g := gb217) (o := .cells #[.int .i64 1, .string (⟨#[98]⟩ : ByteArray), .slice none 0 0] 25 (0, 0)) (by (with_reducible repeat (first | refine kN ?_ _ | refine kD ?_ | refine kA ?_ _)); refine blk_put (cs := #[.int .i64 1, .string (⟨#[98]⟩ : ByteArray), .slice none 0 0]) ?_ 2 _ rfl; (with_reducible repeat (first | refine kN ?_ _ | refine kD ?_ | refine kA ?_ _)); refine blk_put (cs := #[.int .i64 1, .string (⟨#[]⟩ : ByteArray), .slice none 0 0]) ?_ 1 _ rfl; (with_reducible repeat (first | refine kN ?_ _ | refine kD ?_ | refine kA ?_ _)); refine blk_put (cs := #[.int .i64 0, .string (⟨#[]⟩ : ByteArray), .slice none 0 0]) ?_ 0 _ rfl; (with_reducible repeat (first | refine kN ?_ _ | refine kD ?_ | refine kA ?_ _)); exact BK217.out) k_ hk)) _ (by first | exact Nat.le_refl _ | simp)) (Below.refl _ _) (Nat.le_refl _) (by simp) ?_; (case hd => rfl); (case hg => rfl); (case hr => first | (go_simp; done) | (go_simp; rfl)); (case hp => exact (Reps.c3 (show Kd.FK k25 _ _ (⟨1, (⟨#[98]⟩ : ByteArray), ([] : List (S99))⟩ : S25) [.int .i64 1, .string (⟨#[98]⟩ : ByteArray), .slice none 0 0] from (k25_mkF _ _ (⟨1, (⟨#[98]⟩ : ByteArray), ([] : List (S99))⟩ : S25) (Nat.le_refl _) (Kd.F_nil _ _ _))) (Reps.c3 (show Kd.FK k25 _ _ (⟨1, (⟨#[98]⟩ : ByteArray), ([] : List (S99))⟩ : S25) [.int .i64 1, .string (⟨#[98]⟩ : ByteArray), .slice none 0 0] from (k25_mkF _ _ (⟨1, (⟨#[98]⟩ : ByteArray), ([] : List (S99))⟩ : S25) (Nat.le_refl _) (Kd.F_nil _ _ _))) (Reps.c3 (show Kd.FK k25 _ _ (⟨1, (⟨#[98]⟩ : ByteArray), ([] : List (S99))⟩ : S25) [.int .i64 1, .string (⟨#[98]⟩ : ByteArray), .slice none 0 0] from (k25_mkF _ _ (⟨1, (⟨#[98]⟩ : ByteArray), ([] : List (S99))⟩ : S25) (Nat.le_refl _) (Kd.F_nil _ _ _))) (Reps.none _ _))))); intro v219 w60 ho61 hb hg_ hnew_; clear hg_ hnew_; (first | rw [← Ny218.out] at ho61 | (simp only [Int.reduceToNat] at ho61; rw [← Ny218.out] at ho61)); have n0_ := aS (Kd.N_lower ho61 (below_size (by repeat (first | (with_reducible first | exact HB.out | apply bA | apply bN | apply bD | refine bS ?_ GE217.out) | exact HB.out)))); have n1_ := aS (blk_below (g := gb217) (o := .cells #[.int .i64 1, .string (⟨#[98]⟩ : ByteArray), .slice none 0 0] 25 (0, 0)) (by (with_reducible repeat (first | refine kN ?_ _ | refine kD ?_ | refine kA ?_ _)); refine blk_put (cs := #[.int .i64 1, .string (⟨#[98]⟩ : ByteArray), .slice none 0 0]) ?_ 2 _ rfl; (with_reducible repeat (first | refine kN ?_ _ | refine kD ?_ | refine kA ?_ _)); refine blk_put (cs := #[.int .i64 1, .string (⟨#[]⟩ : ByteArray), .slice none 0 0]) ?_ 1 _ rfl; (with_reducible repeat (first | refine kN ?_ _ | refine kD ?_ | refine kA ?_ _)); refine blk_put (cs := #[.int .i64 0, .string (⟨#[]⟩ : ByteArray), .slice none 0 0]) ?_ 0 _ rfl; (with_reducible repeat (first | refine kN ?_ _ | refine kD ?_ | refine kA ?_ _)); exact BK217.out) hb); have n2_ := aS (below_step (by repeat (first | (with_reducible first | exact HB.out | apply bA | apply bN | apply bD | refine bS ?_ GE217.out) | exact HB.out)) hb); clear BK217; clear HB; have HO220 := n0_; have BK217 := n1_; have HB := n2_; clear n0_ n1_ n2_; clear hb ho61; obtain ⟨Ao62, co62, eo62⟩ := Kd.N_slice HO220.out; subst eo62) | ((with_reducible refine gate_callee (f := 10) rfl ?_); refine goesL_ (some 13) rfl rfl Try.func10 (by kernel_rfl) rfl #[.slice Ao62 y218.length co62, .agg #[.int .i64 4, .string (⟨#[98]⟩ : ByteArray), .slice none 0 0]] rfl (by (try simp only [List.map_toArray, List.map_cons, List.map_nil]); first | done | rfl | (simp only [List.length_drop, List.length_take]; rfl)) ?_; (refine (active_Push.calls k (fun k_ => k_ ≠ gb217) _ _ y218 4 (⟨#[98]⟩ : ByteArray) (fun k_ => False) _ _ ([] : List (S99)) t221 t224 _ ?side1 ?side2 A1.out).mono ?_); (case side1 => exact Kd.N_V (HO220.out)); (case side2 => exact Kd.V_nil _ _ _ _ _); rintro e w63 ⟨v222, rfl, ho0, hb⟩; refine ⟨_, rfl, ?_⟩; have n0_ := aS (Kd.N_elder' (by (with_reducible repeat (first | apply nA | apply nN | apply nD)); exact HO220.out) (Kd.N_base ho0) hb); have n1_ := aS (Kd.N_lower (Kd.N_mono (ok' := fun k_ => k_ ≠ gb217) ho0 (fun k_ hk_ => Or.elim hk_ (fun hs_ => Or.elim hs_ (fun hs_ => hs_) (fun hs_ => (hs_).elim)) (fun hn_ => (Kd.freshB (g := gb217) (o := .cells #[.int .i64 1, .string (⟨#[98]⟩ : ByteArray), .slice none 0 0] 25 (0, 0)) (by (with_reducible repeat (first | refine kN ?_ _ | refine kD ?_ | refine kA ?_ _)); exact BK217.out) k_ hn_)))) (below_size (by repeat (first | (with_reducible first | exact HB.out | apply bA | apply bN | apply bD | refine bS ?_ GE217.out) | exact HB.out)))); have n2_ := aS (blk_below (g := gb217) (o := .cells #[.int .i64 1, .string (⟨#[98]⟩ : ByteArray), .slice none 0 0] 25 (0, 0)) (by (with_reducible repeat (first | refine kN ?_ _ | refine kD ?_ | refine kA ?_ _)); exact BK217.out) hb); have n3_ := aS (below_step (by repeat (first | (with_reducible first | exact HB.out | apply bA | apply bN | apply bD | refine bS ?_ GE217.out) | exact HB.out)) hb); clear HO220; clear BK217; clear HB; have HO220 := n0_; have HO223 := n1_; have BK217 := n2_; have HB := n3_; clear n0_ n1_ n2_ n3_; (try clear hb); (try clear hb2); (try clear hk); (try clear hi); (try clear ho0); have hcz64_0 : w63.cell? ⟨gb217, 0, none⟩ = some (.int .i64 1) := (blk_cell BK217.out 0).trans rfl; have hcz64_1 : w63.cell? ⟨gb217, 1, none⟩ = some (.string (⟨#[98]⟩ : ByteArray)) := (blk_cell BK217.out 1).trans rfl; have hcz64_2 : w63.cell? ⟨gb217, 2, none⟩ = some (.slice none 0 0) := (blk_cell BK217.out 2).trans rfl; have hfz64_0 := blk_frozen BK217.out 0; have hfz64_1 := blk_frozen BK217.out 1; have hfz64_2 := blk_frozen BK217.out 2) | ((with_reducible refine gate_dst (N := 19) rfl ?_); (try (refine gate_guard (by rfl) ?_; dsimp only)); refine Kd.N_lit k25 _ 25 ?hg (N' := 19) ?hd (xs := ([(⟨1, (⟨#[98]⟩ : ByteArray), ([] : List (S99))⟩ : S25), (⟨2, (⟨#[105]⟩ : ByteArray), ([] : List (S99))⟩ : S25)] : List (S25))) (inner := [.int .i64 1, .string (⟨#[98]⟩ : ByteArray), .slice none 0 0, .int .i64 2, .string (⟨#[105]⟩ : ByteArray), .slice none 0 0]) (ok := (fun k_ => some k_ ≠ (.slice Ao62 y218.length co62 : Value).ownBlock ∧ some k_ ≠ (v222 : Value).ownBlock ∧ k_ ≠ gb217)) (okp := (fun k_ => some k_ ≠ (.slice Ao62 y218.length co62 : Value).ownBlock ∧ some k_ ≠ (v222 : Value).ownBlock ∧ k_ ≠ gb217)) ?hr ?hp (fun _ hk => hk) ((show ∀ k_, w63.heap.size ≤ k_ → (fun k_ => some k_ ≠ (.slice Ao62 y218.length co62 : Value).ownBlock ∧ some k_ ≠ (v222 : Value).ownBlock ∧ k_ ≠ gb217) k_ from fun k_ hk => ⟨Kd.fresh' (Kd.N_lt (by (with_reducible repeat (first | apply nA | apply nN | apply nD)); exact HO220.out)) k_ hk, Kd.fresh' (Kd.N_lt (by (with_reducible repeat (first | apply nA | apply nN | apply nD)); exact HO223.out)) k_ hk, Kd.freshB (g := gb217) (o := .cells #[.int .i64 1, .string (⟨#[98]⟩ : ByteArray), .slice none 0 0] 25 (0, 0)) (by (with_reducible repeat (first | refine kN ?_ _ | refine kD ?_ | refine kA ?_ _)); exact BK217.out) k_ hk⟩) _ (by first | exact Nat.le_refl _ | simp)) (Below.refl _ _) (Nat.le_refl _) (by simp) ?_; (case hd => rfl); (case hg => rfl); (case hr => first | (go_simp; done) | (go_simp; rfl)); (case hp => exact (Reps.c3 (show Kd.FK k25 _ _ (⟨1, (⟨#[98]⟩ : ByteArray), ([] : List (S99))⟩ : S25) [.int .i64 1, .string (⟨#[98]⟩ : ByteArray), .slice none 0 0] from (k25_mkF _ _ (⟨1, (⟨#[98]⟩ : ByteArray), ([] : List (S99))⟩ : S25) (Nat.le_refl _) (Kd.F_nil _ _ _))) (Reps.c3 (show Kd.FK k25 _ _ (⟨2, (⟨#[105]⟩ : ByteArray), ([] : List (S99))⟩ : S25) [.int .i64 2, .string (⟨#[105]⟩ : ByteArray), .slice none 0 0] from (k25_mkF _ _ (⟨2, (⟨#[105]⟩ : ByteArray), ([] : List (S99))⟩ : S25) (Nat.le_refl _) (Kd.F_nil _ _ _))) (Reps.none _ _)))); intro v226 w65 ho66 hb hg_ hnew_; clear hg_ hnew_; (first | rw [← Ny225.out] at ho66 | (simp only [Int.reduceToNat] at ho66; rw [← Ny225.out] at ho66)); have n0_ := aS (Kd.N_elder' (by (with_reducible repeat (first | apply nA | apply nN | apply nD)); exact HO220.out) (Kd.N_base ho66) hb); have n1_ := aS (Kd.N_elder' (by (with_reducible repeat (first | apply nA | apply nN | apply nD)); exact HO223.out) (Kd.N_base ho66) hb); have n2_ := aS (Kd.N_lower ho66 (below_size (by repeat (first | (with_reducible first | exact HB.out | apply bA | apply bN | apply bD | refine bS ?_ GE217.out) | exact HB.out)))); have n3_ := aS (blk_below (g := gb217) (o := .cells #[.int .i64 1, .string (⟨#[98]⟩ : ByteArray), .slice none 0 0] 25 (0, 0)) (by (with_reducible repeat (first | refine kN ?_ _ | refine kD ?_ | refine kA ?_ _)); exact BK217.out) hb); have n4_ := aS (below_step (by repeat (first | (with_reducible first | exact HB.out | apply bA | apply bN | apply bD | refine bS ?_ GE217.out) | exact HB.out)) hb); clear HO220; clear HO223; clear BK217; clear HB; have HO220 := n0_; have HO223 := n1_; have HO227 := n2_; have BK217 := n3_; have HB := n4_; clear n0_ n1_ n2_ n3_ n4_; clear hb ho66) | ((with_reducible refine gate_dst (N := 20) rfl ?_); (try (refine gate_guard (by rfl) ?_; dsimp only)); refine Kd.R_lit (Kd.int .i64) _ 3 ?hg (N := 20) ?hd (xs := ([1] : List Int)) (inner := [.int .i64 1]) (ok := fun _ => True) (okp := fun _ => True) ?hr ?hp (fun _ hk => hk) trivial (Below.refl _ _) (Nat.le_refl _) (by simp) ?_; (case hd => rfl); (case hg => rfl); (case hr => first | (go_simp; done) | (go_simp; rfl)); (case hp => exact (Reps.one (show Kd.M (Kd.int .i64) _ _ _ 1 [.int .i64 1] from rfl) (Reps.none _ _))); intro v229 w67 ho68 hb hg_ hnew_; clear hg_ hnew_; (first | rw [← Ny228.out] at ho68 | (simp only [Int.reduceToNat] at ho68; rw [← Ny228.out] at ho68)); have n0_ := aS (Kd.N_elder' (by (with_reducible repeat (first | apply nA | apply nN | apply nD)); exact HO220.out) (Kd.R_base ho68) hb); have n1_ := aS (Kd.N_elder' (by (with_reducible repeat (first | apply nA | apply nN | apply nD)); exact HO223.out) (Kd.R_base ho68) hb); have n2_ := aS (Kd.N_elder' (by (with_reducible repeat (first | apply nA | apply nN | apply nD)); exact HO227.out) (Kd.R_base ho68) hb); have n3_ := aS (Kd.R_lower ho68 (below_size (by repeat (first | (with_reducible first | exact HB.out | apply bA | apply bN | apply bD | refine bS ?_ GE217.out) | exact HB.out)))); have n4_ := aS (blk_below (g := gb217) (o := .cells #[.int .i64 1, .string (⟨#[98]⟩ : ByteArray), .slice none 0 0] 25 (0, 0)) (by (with_reducible repeat (first | refine kN ?_ _ | refine kD ?_ | refine kA ?_ _)); exact BK217.out) hb); have n5_ := aS (below_step (by repeat (first | (with_reducible first | exact HB.out | apply bA | apply bN | apply bD | refine bS ?_ GE217.out) | exact HB.out)) hb); clear HO220; clear HO223; clear HO227; clear BK217; clear HB; have HO220 := n0_; have HO223 := n1_; have HO227 := n2_; have HO230 := n3_; have BK217 := n4_; have HB := n5_; clear n0_ n1_ n2_ n3_ n4_ n5_; clear hb ho68; obtain ⟨Ao69, co69, eo69⟩ := Kd.N_slice HO227.out; subst eo69; obtain ⟨Ao70, co70, eo70⟩ := Kd.R_slice HO230.out; subst eo70) | ((with_reducible refine gate_callee (f := 23) rfl ?_); refine goesL_ (some 21) rfl rfl Try.func23 (by kernel_rfl) rfl #[.slice Ao69 y225.length co69, .slice Ao70 y228.length co70] rfl (by (try simp only [List.map_toArray, List.map_cons, List.map_nil]); first | done | rfl | (simp only [List.length_drop, List.length_take]; rfl)) ?_; (with_reducible refine (active_Again.calls k _ _ y225 _ _ y228 t231 t232 _ ?side1 ?side2 ?side3 ?side4 A2.out).mono ?_); (case side1 => repeat (first | exact (Kd.N_reads' HO227.out).2.2 | (with_reducible refine cA ?_ _) | (with_reducible refine cN ?_ _) | (with_reducible refine cD ?_))); (case side2 => exact (Kd.N_reads' HO227.out).2.1); (case side3 => repeat (first | exact (Kd.R_reads' HO230.out).2.2 | (with_reducible refine cA ?_ _) | (with_reducible refine cN ?_ _) | (with_reducible refine cD ?_))); (case side4 => exact (Kd.R_reads' HO230.out).2.1); rintro e w71 ⟨v233, rfl, ho0, hb⟩; refine ⟨_, rfl, ?_⟩; have n0_ := aS (Kd.N_elder' (by (with_reducible repeat (first | apply nA | apply nN | apply nD)); exact HO220.out) (Kd.R_base ho0) hb); have n1_ := aS (Kd.N_elder' (by (with_reducible repeat (first | apply nA | apply nN | apply nD)); exact HO223.out) (Kd.R_base ho0) hb); have n2_ := aS (Kd.N_elder' (by (with_reducible repeat (first | apply nA | apply nN | apply nD)); exact HO227.out) (Kd.R_base ho0) hb); have n3_ := aS (Kd.R_elder' (by (with_reducible repeat (first | apply rA | apply rN | apply rD)); exact HO230.out) (Kd.R_base ho0) hb); have n4_ := aS (Kd.R_lower (Kd.R_new' ho0 (Kd.R_lt (by (with_reducible repeat (first | apply rA | apply rN | apply rD)); exact HO230.out))) (below_size (by repeat (first | (with_reducible first | exact HB.out | apply bA | apply bN | apply bD | refine bS ?_ GE217.out) | exact HB.out)))); have n5_ := aS (blk_below (g := gb217) (o := .cells #[.int .i64 1, .string (⟨#[98]⟩ : ByteArray), .slice none 0 0] 25 (0, 0)) (by (with_reducible repeat (first | refine kN ?_ _ | refine kD ?_ | refine kA ?_ _)); exact BK217.out) hb); have n6_ := aS (below_step (by repeat (first | (with_reducible first | exact HB.out | apply bA | apply bN | apply bD | refine bS ?_ GE217.out) | exact HB.out)) hb); clear HO220; clear HO223; clear HO227; clear HO230; clear BK217; clear HB; have HO220 := n0_; have HO223 := n1_; have HO227 := n2_; have HO230 := n3_; have HO234 := n4_; have BK217 := n5_; have HB := n6_; clear n0_ n1_ n2_ n3_ n4_ n5_ n6_; (try clear hb); (try clear hb2); (try clear hk); (try clear hi); (try clear ho0); obtain ⟨Ao72, co72, eo72⟩ := Kd.N_slice HO223.out; subst eo72))
   go_ret
   exact ⟨by first | rfl | (simp [errW_none, errW_some] <;> rfl) | (simp [*, errW_none, errW_some] <;> rfl), by repeat (first | (with_reducible first | exact HB.out | apply bA | apply bN | apply bD | refine bS ?_ GE217.out) | exact HB.out)⟩
 ·rw [if_neg c3] at H
  have c3b0 : (t224 == 0) = false := beq_eq_false_iff_ne.mpr c3
  have c3b1 : (t224 != 0) = true := bne_iff_ne.mpr c3
  obtain rfl := Option.some.inj H
  go_enter Try.func15, Try.ntmps15
  go_wp2_with (first | ((with_reducible refine gate_dst (N := 1) rfl ?_); (try (refine gate_guard (by rfl) ?_; dsimp only)); refine box_event ?hg (N := 1) ?hd (cs := #[.int .i64 0, .string (⟨#[]⟩ : ByteArray), .slice none 0 0]) (t := 25) ?hr ?_; (case hd => rfl); (case hg => rfl); (case hr => first | (go_simp; done) | (go_simp; rfl)); intro gb217 hg w73 hbox hb; have n0_ := aS (below_step (by repeat (first | (with_reducible first | exact HB.out | apply bA | apply bN | apply bD) | exact HB.out)) hb); have n1_ := aS (hbox); have n2_ := aS ((by rw [hg]; exact (below_size (by repeat (first | (with_reducible first | exact HB.out | apply bA | apply bN | apply bD) | exact HB.out))) : w.heap.size ≤ gb217)); have n3_ := aS ((by rw [hg]; exact (below_size (by repeat (first | (with_reducible first | exact HB.out | apply bA | apply bN | apply bD) | exact HB.out))) : w.heap.size ≤ gb217)); clear HB; have HB := n0_; have BK217 := n1_; have GW217 := n2_; have GE217 := n3_; clear n0_ n1_ n2_ n3_; clear hb hbox hg; have hcz74_0 : w73.cell? ⟨gb217, 0, none⟩ = some (.int .i64 0) := (blk_cell BK217.out 0).trans rfl; have hcz74_1 : w73.cell? ⟨gb217, 1, none⟩ = some (.string (⟨#[]⟩ : ByteArray)) := (blk_cell BK217.out 1).trans rfl; have hcz74_2 : w73.cell? ⟨gb217, 2, none⟩ = some (.slice none 0 0) := (blk_cell BK217.out 2).trans rfl; have hfz74_0 := blk_frozen BK217.out 0; have hfz74_1 := blk_frozen BK217.out 1; have hfz74_2 := blk_frozen BK217.out 2) | ((with_reducible refine gate_dst (N := 11) rfl ?_); (try (refine gate_guard (by rfl) ?_; dsimp only)); refine Kd.N_lit k25 _ 25 ?hg (N' := 11) ?hd (xs := ([(⟨1, (⟨#[98]⟩ : ByteArray), ([] : List (S99))⟩ : S25), (⟨1, (⟨#[98]⟩ : ByteArray), ([] : List (S99))⟩ : S25), (⟨1, (⟨#[98]⟩ : ByteArray), ([] : List (S99))⟩ : S25)] : List (S25))) (inner := [.int .i64 1, .string (⟨#[98]⟩ : ByteArray), .slice none 0 0, .int .i64 1, .string (⟨#[98]⟩ : ByteArray), .slice none 0 0, .int .i64 1, .string (⟨#[98]⟩ : ByteArray), .slice none 0 0]) (ok := (fun k_ => k_ ≠ gb217)) (okp := (fun k_ => k_ ≠ gb217)) ?hr ?hp (fun _ hk => hk) ((show ∀ k_, w73.heap.size ≤ k_ → (fun k_ => k_ ≠ gb217) k_ from fun k_ hk => (by first | exact Kd.freshB (g := gb217) BK217.out k_ hk | exact Kd.freshB (g := gb217) (o := .cells #[.int .i64 1, .string (⟨#[98]⟩ : ByteArray), .slice none 0 0] 25 (0, 0)) (by (with_reducible repeat (first | refine kN ?_ _ | refine kD ?_ | refine kA ?_ _)); refine blk_put (cs := #[.int .i64 1, .string (⟨#[98]⟩ : ByteArray), .slice none 0 0]) ?_ 2 _ rfl; (with_reducible repeat (first | refine kN ?_ _ | refine kD ?_ | refine kA ?_ _)); refine blk_put (cs := #[.int .i64 1, .string (⟨#[]⟩ : ByteArray), .slice none 0 0]) ?_ 1 _ rfl; (with_reducible repeat (first | refine kN ?_ _ | refine kD ?_ | refine kA ?_ _)); refine blk_put (cs := #[.int .i64 0, .string (⟨#[]⟩ : ByteArray), .slice none 0 0]) ?_ 0 _ rfl; (with_reducible repeat (first | refine kN ?_ _ | refine kD ?_ | refine kA ?_ _)); exact BK217.out) k_ hk)) _ (by first | exact Nat.le_refl _ | simp)) (Below.refl _ _) (Nat.le_refl _) (by simp) ?_; (case hd => rfl); (case hg => rfl); (case hr => first | (go_simp; done) | (go_simp; rfl)); (case hp => exact (Reps.c3 (show Kd.FK k25 _ _ (⟨1, (⟨#[98]⟩ : ByteArray), ([] : List (S99))⟩ : S25) [.int .i64 1, .string (⟨#[98]⟩ : ByteArray), .slice none 0 0] from (k25_mkF _ _ (⟨1, (⟨#[98]⟩ : ByteArray), ([] : List (S99))⟩ : S25) (Nat.le_refl _) (Kd.F_nil _ _ _))) (Reps.c3 (show Kd.FK k25 _ _ (⟨1, (⟨#[98]⟩ : ByteArray), ([] : List (S99))⟩ : S25) [.int .i64 1, .string (⟨#[98]⟩ : ByteArray), .slice none 0 0] from (k25_mkF _ _ (⟨1, (⟨#[98]⟩ : ByteArray), ([] : List (S99))⟩ : S25) (Nat.le_refl _) (Kd.F_nil _ _ _))) (Reps.c3 (show Kd.FK k25 _ _ (⟨1, (⟨#[98]⟩ : ByteArray), ([] : List (S99))⟩ : S25) [.int .i64 1, .string (⟨#[98]⟩ : ByteArray), .slice none 0 0] from (k25_mkF _ _ (⟨1, (⟨#[98]⟩ : ByteArray), ([] : List (S99))⟩ : S25) (Nat.le_refl _) (Kd.F_nil _ _ _))) (Reps.none _ _))))); intro v219 w75 ho76 hb hg_ hnew_; clear hg_ hnew_; (first | rw [← Ny218.out] at ho76 | (simp only [Int.reduceToNat] at ho76; rw [← Ny218.out] at ho76)); have n0_ := aS (Kd.N_lower ho76 (below_size (by repeat (first | (with_reducible first | exact HB.out | apply bA | apply bN | apply bD | refine bS ?_ GE217.out) | exact HB.out)))); have n1_ := aS (blk_below (g := gb217) (o := .cells #[.int .i64 1, .string (⟨#[98]⟩ : ByteArray), .slice none 0 0] 25 (0, 0)) (by (with_reducible repeat (first | refine kN ?_ _ | refine kD ?_ | refine kA ?_ _)); refine blk_put (cs := #[.int .i64 1, .string (⟨#[98]⟩ : ByteArray), .slice none 0 0]) ?_ 2 _ rfl; (with_reducible repeat (first | refine kN ?_ _ | refine kD ?_ | refine kA ?_ _)); refine blk_put (cs := #[.int .i64 1, .string (⟨#[]⟩ : ByteArray), .slice none 0 0]) ?_ 1 _ rfl; (with_reducible repeat (first | refine kN ?_ _ | refine kD ?_ | refine kA ?_ _)); refine blk_put (cs := #[.int .i64 0, .string (⟨#[]⟩ : ByteArray), .slice none 0 0]) ?_ 0 _ rfl; (with_reducible repeat (first | refine kN ?_ _ | refine kD ?_ | refine kA ?_ _)); exact BK217.out) hb); have n2_ := aS (below_step (by repeat (first | (with_reducible first | exact HB.out | apply bA | apply bN | apply bD | refine bS ?_ GE217.out) | exact HB.out)) hb); clear BK217; clear HB; have HO220 := n0_; have BK217 := n1_; have HB := n2_; clear n0_ n1_ n2_; clear hb ho76; obtain ⟨Ao77, co77, eo77⟩ := Kd.N_slice HO220.out; subst eo77) | ((with_reducible refine gate_callee (f := 10) rfl ?_); refine goesL_ (some 13) rfl rfl Try.func10 (by kernel_rfl) rfl #[.slice Ao77 y218.length co77, .agg #[.int .i64 4, .string (⟨#[98]⟩ : ByteArray), .slice none 0 0]] rfl (by (try simp only [List.map_toArray, List.map_cons, List.map_nil]); first | done | rfl | (simp only [List.length_drop, List.length_take]; rfl)) ?_; (refine (active_Push.calls k (fun k_ => k_ ≠ gb217) _ _ y218 4 (⟨#[98]⟩ : ByteArray) (fun k_ => False) _ _ ([] : List (S99)) t221 t224 _ ?side1 ?side2 A1.out).mono ?_); (case side1 => exact Kd.N_V (HO220.out)); (case side2 => exact Kd.V_nil _ _ _ _ _); rintro e w78 ⟨v222, rfl, ho0, hb⟩; refine ⟨_, rfl, ?_⟩; have n0_ := aS (Kd.N_elder' (by (with_reducible repeat (first | apply nA | apply nN | apply nD)); exact HO220.out) (Kd.N_base ho0) hb); have n1_ := aS (Kd.N_lower (Kd.N_mono (ok' := fun k_ => k_ ≠ gb217) ho0 (fun k_ hk_ => Or.elim hk_ (fun hs_ => Or.elim hs_ (fun hs_ => hs_) (fun hs_ => (hs_).elim)) (fun hn_ => (Kd.freshB (g := gb217) (o := .cells #[.int .i64 1, .string (⟨#[98]⟩ : ByteArray), .slice none 0 0] 25 (0, 0)) (by (with_reducible repeat (first | refine kN ?_ _ | refine kD ?_ | refine kA ?_ _)); exact BK217.out) k_ hn_)))) (below_size (by repeat (first | (with_reducible first | exact HB.out | apply bA | apply bN | apply bD | refine bS ?_ GE217.out) | exact HB.out)))); have n2_ := aS (blk_below (g := gb217) (o := .cells #[.int .i64 1, .string (⟨#[98]⟩ : ByteArray), .slice none 0 0] 25 (0, 0)) (by (with_reducible repeat (first | refine kN ?_ _ | refine kD ?_ | refine kA ?_ _)); exact BK217.out) hb); have n3_ := aS (below_step (by repeat (first | (with_reducible first | exact HB.out | apply bA | apply bN | apply bD | refine bS ?_ GE217.out) | exact HB.out)) hb); clear HO220; clear BK217; clear HB; have HO220 := n0_; have HO223 := n1_; have BK217 := n2_; have HB := n3_; clear n0_ n1_ n2_ n3_; (try clear hb); (try clear hb2); (try clear hk); (try clear hi); (try clear ho0); have hcz79_0 : w78.cell? ⟨gb217, 0, none⟩ = some (.int .i64 1) := (blk_cell BK217.out 0).trans rfl; have hcz79_1 : w78.cell? ⟨gb217, 1, none⟩ = some (.string (⟨#[98]⟩ : ByteArray)) := (blk_cell BK217.out 1).trans rfl; have hcz79_2 : w78.cell? ⟨gb217, 2, none⟩ = some (.slice none 0 0) := (blk_cell BK217.out 2).trans rfl; have hfz79_0 := blk_frozen BK217.out 0; have hfz79_1 := blk_frozen BK217.out 1; have hfz79_2 := blk_frozen BK217.out 2) | ((with_reducible refine gate_dst (N := 19) rfl ?_); (try (refine gate_guard (by rfl) ?_; dsimp only)); refine Kd.N_lit k25 _ 25 ?hg (N' := 19) ?hd (xs := ([(⟨1, (⟨#[98]⟩ : ByteArray), ([] : List (S99))⟩ : S25), (⟨2, (⟨#[105]⟩ : ByteArray), ([] : List (S99))⟩ : S25)] : List (S25))) (inner := [.int .i64 1, .string (⟨#[98]⟩ : ByteArray), .slice none 0 0, .int .i64 2, .string (⟨#[105]⟩ : ByteArray), .slice none 0 0]) (ok := (fun k_ => some k_ ≠ (.slice Ao77 y218.length co77 : Value).ownBlock ∧ some k_ ≠ (v222 : Value).ownBlock ∧ k_ ≠ gb217)) (okp := (fun k_ => some k_ ≠ (.slice Ao77 y218.length co77 : Value).ownBlock ∧ some k_ ≠ (v222 : Value).ownBlock ∧ k_ ≠ gb217)) ?hr ?hp (fun _ hk => hk) ((show ∀ k_, w78.heap.size ≤ k_ → (fun k_ => some k_ ≠ (.slice Ao77 y218.length co77 : Value).ownBlock ∧ some k_ ≠ (v222 : Value).ownBlock ∧ k_ ≠ gb217) k_ from fun k_ hk => ⟨Kd.fresh' (Kd.N_lt (by (with_reducible repeat (first | apply nA | apply nN | apply nD)); exact HO220.out)) k_ hk, Kd.fresh' (Kd.N_lt (by (with_reducible repeat (first | apply nA | apply nN | apply nD)); exact HO223.out)) k_ hk, Kd.freshB (g := gb217) (o := .cells #[.int .i64 1, .string (⟨#[98]⟩ : ByteArray), .slice none 0 0] 25 (0, 0)) (by (with_reducible repeat (first | refine kN ?_ _ | refine kD ?_ | refine kA ?_ _)); exact BK217.out) k_ hk⟩) _ (by first | exact Nat.le_refl _ | simp)) (Below.refl _ _) (Nat.le_refl _) (by simp) ?_; (case hd => rfl); (case hg => rfl); (case hr => first | (go_simp; done) | (go_simp; rfl)); (case hp => exact (Reps.c3 (show Kd.FK k25 _ _ (⟨1, (⟨#[98]⟩ : ByteArray), ([] : List (S99))⟩ : S25) [.int .i64 1, .string (⟨#[98]⟩ : ByteArray), .slice none 0 0] from (k25_mkF _ _ (⟨1, (⟨#[98]⟩ : ByteArray), ([] : List (S99))⟩ : S25) (Nat.le_refl _) (Kd.F_nil _ _ _))) (Reps.c3 (show Kd.FK k25 _ _ (⟨2, (⟨#[105]⟩ : ByteArray), ([] : List (S99))⟩ : S25) [.int .i64 2, .string (⟨#[105]⟩ : ByteArray), .slice none 0 0] from (k25_mkF _ _ (⟨2, (⟨#[105]⟩ : ByteArray), ([] : List (S99))⟩ : S25) (Nat.le_refl _) (Kd.F_nil _ _ _))) (Reps.none _ _)))); intro v226 w80 ho81 hb hg_ hnew_; clear hg_ hnew_; (first | rw [← Ny225.out] at ho81 | (simp only [Int.reduceToNat] at ho81; rw [← Ny225.out] at ho81)); have n0_ := aS (Kd.N_elder' (by (with_reducible repeat (first | apply nA | apply nN | apply nD)); exact HO220.out) (Kd.N_base ho81) hb); have n1_ := aS (Kd.N_elder' (by (with_reducible repeat (first | apply nA | apply nN | apply nD)); exact HO223.out) (Kd.N_base ho81) hb); have n2_ := aS (Kd.N_lower ho81 (below_size (by repeat (first | (with_reducible first | exact HB.out | apply bA | apply bN | apply bD | refine bS ?_ GE217.out) | exact HB.out)))); have n3_ := aS (blk_below (g := gb217) (o := .cells #[.int .i64 1, .string (⟨#[98]⟩ : ByteArray), .slice none 0 0] 25 (0, 0)) (by (with_reducible repeat (first | refine kN ?_ _ | refine kD ?_ | refine kA ?_ _)); exact BK217.out) hb); have n4_ := aS (below_step (by repeat (first | (with_reducible first | exact HB.out | apply bA | apply bN | apply bD | refine bS ?_ GE217.out) | exact HB.out)) hb); clear HO220; clear HO223; clear BK217; clear HB; have HO220 := n0_; have HO223 := n1_; have HO227 := n2_; have BK217 := n3_; have HB := n4_; clear n0_ n1_ n2_ n3_ n4_; clear hb ho81) | ((with_reducible refine gate_dst (N := 20) rfl ?_); (try (refine gate_guard (by rfl) ?_; dsimp only)); refine Kd.R_lit (Kd.int .i64) _ 3 ?hg (N := 20) ?hd (xs := ([1] : List Int)) (inner := [.int .i64 1]) (ok := fun _ => True) (okp := fun _ => True) ?hr ?hp (fun _ hk => hk) trivial (Below.refl _ _) (Nat.le_refl _) (by simp) ?_; (case hd => rfl); (case hg => rfl); (case hr => first | (go_simp; done) | (go_simp; rfl)); (case hp => exact (Reps.one (show Kd.M (Kd.int .i64) _ _ _ 1 [.int .i64 1] from rfl) (Reps.none _ _))); intro v229 w82 ho83 hb hg_ hnew_; clear hg_ hnew_; (first | rw [← Ny228.out] at ho83 | (simp only [Int.reduceToNat] at ho83; rw [← Ny228.out] at ho83)); have n0_ := aS (Kd.N_elder' (by (with_reducible repeat (first | apply nA | apply nN | apply nD)); exact HO220.out) (Kd.R_base ho83) hb); have n1_ := aS (Kd.N_elder' (by (with_reducible repeat (first | apply nA | apply nN | apply nD)); exact HO223.out) (Kd.R_base ho83) hb); have n2_ := aS (Kd.N_elder' (by (with_reducible repeat (first | apply nA | apply nN | apply nD)); exact HO227.out) (Kd.R_base ho83) hb); have n3_ := aS (Kd.R_lower ho83 (below_size (by repeat (first | (with_reducible first | exact HB.out | apply bA | apply bN | apply bD | refine bS ?_ GE217.out) | exact HB.out)))); have n4_ := aS (blk_below (g := gb217) (o := .cells #[.int .i64 1, .string (⟨#[98]⟩ : ByteArray), .slice none 0 0] 25 (0, 0)) (by (with_reducible repeat (first | refine kN ?_ _ | refine kD ?_ | refine kA ?_ _)); exact BK217.out) hb); have n5_ := aS (below_step (by repeat (first | (with_reducible first | exact HB.out | apply bA | apply bN | apply bD | refine bS ?_ GE217.out) | exact HB.out)) hb); clear HO220; clear HO223; clear HO227; clear BK217; clear HB; have HO220 := n0_; have HO223 := n1_; have HO227 := n2_; have HO230 := n3_; have BK217 := n4_; have HB := n5_; clear n0_ n1_ n2_ n3_ n4_ n5_; clear hb ho83; obtain ⟨Ao84, co84, eo84⟩ := Kd.N_slice HO227.out; subst eo84; obtain ⟨Ao85, co85, eo85⟩ := Kd.R_slice HO230.out; subst eo85) | ((with_reducible refine gate_callee (f := 23) rfl ?_); refine goesL_ (some 21) rfl rfl Try.func23 (by kernel_rfl) rfl #[.slice Ao84 y225.length co84, .slice Ao85 y228.length co85] rfl (by (try simp only [List.map_toArray, List.map_cons, List.map_nil]); first | done | rfl | (simp only [List.length_drop, List.length_take]; rfl)) ?_; (with_reducible refine (active_Again.calls k _ _ y225 _ _ y228 t231 t232 _ ?side1 ?side2 ?side3 ?side4 A2.out).mono ?_); (case side1 => repeat (first | exact (Kd.N_reads' HO227.out).2.2 | (with_reducible refine cA ?_ _) | (with_reducible refine cN ?_ _) | (with_reducible refine cD ?_))); (case side2 => exact (Kd.N_reads' HO227.out).2.1); (case side3 => repeat (first | exact (Kd.R_reads' HO230.out).2.2 | (with_reducible refine cA ?_ _) | (with_reducible refine cN ?_ _) | (with_reducible refine cD ?_))); (case side4 => exact (Kd.R_reads' HO230.out).2.1); rintro e w86 ⟨v233, rfl, ho0, hb⟩; refine ⟨_, rfl, ?_⟩; have n0_ := aS (Kd.N_elder' (by (with_reducible repeat (first | apply nA | apply nN | apply nD)); exact HO220.out) (Kd.R_base ho0) hb); have n1_ := aS (Kd.N_elder' (by (with_reducible repeat (first | apply nA | apply nN | apply nD)); exact HO223.out) (Kd.R_base ho0) hb); have n2_ := aS (Kd.N_elder' (by (with_reducible repeat (first | apply nA | apply nN | apply nD)); exact HO227.out) (Kd.R_base ho0) hb); have n3_ := aS (Kd.R_elder' (by (with_reducible repeat (first | apply rA | apply rN | apply rD)); exact HO230.out) (Kd.R_base ho0) hb); have n4_ := aS (Kd.R_lower (Kd.R_new' ho0 (Kd.R_lt (by (with_reducible repeat (first | apply rA | apply rN | apply rD)); exact HO230.out))) (below_size (by repeat (first | (with_reducible first | exact HB.out | apply bA | apply bN | apply bD | refine bS ?_ GE217.out) | exact HB.out)))); have n5_ := aS (blk_below (g := gb217) (o := .cells #[.int .i64 1, .string (⟨#[98]⟩ : ByteArray), .slice none 0 0] 25 (0, 0)) (by (with_reducible repeat (first | refine kN ?_ _ | refine kD ?_ | refine kA ?_ _)); exact BK217.out) hb); have n6_ := aS (below_step (by repeat (first | (with_reducible first | exact HB.out | apply bA | apply bN | apply bD | refine bS ?_ GE217.out) | exact HB.out)) hb); clear HO220; clear HO223; clear HO227; clear HO230; clear BK217; clear HB; have HO220 := n0_; have HO223 := n1_; have HO227 := n2_; have HO230 := n3_; have HO234 := n4_; have BK217 := n5_; have HB := n6_; clear n0_ n1_ n2_ n3_ n4_ n5_ n6_; (try clear hb); (try clear hb2); (try clear hk); (try clear hi); (try clear ho0)))
  go_ret
  exact ⟨by first | rfl | (simp [errW_none, errW_some] <;> rfl) | (simp [*, errW_none, errW_some] <;> rfl), by repeat (first | (with_reducible first | exact HB.out | apply bA | apply bN | apply bD | refine bS ?_ GE217.out) | exact HB.out)⟩

/-! ### clerestoryref1_SameAttrs: function 57 -/
def clerestoryref1_SameAttrs.l0 : Nat → List (S99) → List (S99) → Int → Option (Bool)
 | 0, _, _, _ => none
 | k + 1, x0, x1, x5 => if x5 < (x0.length : Int) then (if 0 ≤ x5 then (if x5 < (x1.length : Int) then (if (!((((rd_T99 x0 x5).f0).toList) == (((rd_T99 x1 x5).f0).toList)) || (!((((rd_T99 x0 x5).f1).toList) == (((rd_T99 x1 x5).f1).toList)))) = true then (some false) else (clerestoryref1_SameAttrs.l0 k x0 x1 (wrap64 (x5 + 1)))) else (none)) else (none)) else (some true)
def clerestoryref1_SameAttrs.f (k : Nat) (l0 : List (S99)) (l1 : List (S99)) : Option (Bool) := if (l0.length : Int) = (l1.length : Int) then (clerestoryref1_SameAttrs.l0 k l0 l1 0) else (some false)
theorem clerestoryref1_SameAttrs.mono_l : ∀ k, (∀ y0 y1 y2, LeO (clerestoryref1_SameAttrs.l0 k y0 y1 y2) (clerestoryref1_SameAttrs.l0 (k + 1) y0 y1 y2))
 | 0 => fun _ _ _ r h => by simp [clerestoryref1_SameAttrs.l0] at h
 | k + 1 => by
  have ih0 := clerestoryref1_SameAttrs.mono_l k
  ·intro y0 y1 y2
   unfold clerestoryref1_SameAttrs.l0
   repeat' first
   | (with_reducible exact ih0 _ _ _)
   | (with_reducible exact LeO.refl _)
   | (with_reducible exact LeO.none _)
   | (with_reducible refine LeO.ite ?_ ?_)
   | (with_reducible refine LeO.bind ?_ (fun _ => ?_))
   | exact ih0 _ _ _
   | exact LeO.none _
   | refine LeO.ite ?_ ?_
   | refine LeO.bind ?_ (fun _ => ?_)
theorem clerestoryref1_SameAttrs.mono : ∀ a0 a1 k, LeO (clerestoryref1_SameAttrs.f k a0 a1) (clerestoryref1_SameAttrs.f (k + 1) a0 a1) := by
 intro a0 a1 k
 have ih0 := clerestoryref1_SameAttrs.mono_l k
 unfold clerestoryref1_SameAttrs.f
 repeat' first
  | (with_reducible exact ih0 _ _ _)
  | (with_reducible exact LeO.refl _)
  | (with_reducible exact LeO.none _)
  | (with_reducible refine LeO.ite ?_ ?_)
  | (with_reducible refine LeO.bind ?_ (fun _ => ?_))
  | exact ih0 _ _ _
  | exact LeO.none _
  | refine LeO.ite ?_ ?_
  | refine LeO.bind ?_ (fun _ => ?_)
set_option maxHeartbeats 8000000 in
set_option maxRecDepth 100000 in
theorem clerestoryref1_SameAttrs.calls (k : Nat) (A0 : Option Addr) (c0 : Nat) (l0 : List (S99)) (A1 : Option Addr) (c1 : Nat) (l1 : List (S99)) (r : Bool) (w : World) (hr0 : Kd.C k99 w A0 l0.length l0) (hc0 : l0.length ≤ c0) (hr1 : Kd.C k99 w A1 l1.length l1) (hc1 : l1.length ≤ c1) (h : clerestoryref1_SameAttrs.f k l0 l1 = some r) :
 Calls Try.prog 57 #[.slice A0 l0.length c0, .slice A1 l1.length c1] w fun e w' => e = .returned (.bool r) ∧ Drawn0 w w' := by
 have hu99 := Try.underlying99
 have HR0 := aS hr0
 have HC0 := aS hc0
 clear hr0 hc0
 have HR1 := aS hr1
 have HC1 := aS hc1
 clear hr1 hc1
 have H : (if (l0.length : Int) = (l1.length : Int) then (clerestoryref1_SameAttrs.l0 k l0 l1 0) else (some false)) = some r := h
 clear h
 by_cases c3 : (l0.length : Int) = (l1.length : Int)
 ·rw [if_pos c3] at H
  have c3b0 : ((l0.length : Int) == (l1.length : Int)) = true := beq_iff_eq.mpr c3
  have c3b1 : ((l0.length : Int) != (l1.length : Int)) = false := bne_eq_false_iff_eq.mpr c3
  have c3b2 : (l0.length == l1.length) = true := by first | simpa using c3 | (simp at c3 ⊢; omega)
  clear c3
  have H' := aS H
  clear H
  go_enter Try.func57, Try.ntmps57
  go_wp2
  repeat (go_quiet (fail); try go_wp2)
  go_loopg [5] k (fun kq v5 w' => ∃ (x5_1 : Int), v5 = .int .i64 x5_1 ∧ Aside0 (clerestoryref1_SameAttrs.l0 kq l0 l1 x5_1 = some r) ∧ Aside0 (kq ≤ k) ∧ Drawn0 w w')
  case atStart => exact ⟨(0), (by first | rfl | (simp; done) | simp [*]), H', ⟨Nat.le_refl _⟩, by repeat (first | exact Drawn0.refl _ | apply Drawn0.step)⟩
  case round =>
   clear H'
   try clear c1
   try clear p2
   try clear c3
   try clear c3b0
   try clear c3b1
   try clear c3b2
   obtain ⟨x5_1, rfl, HA, HK1, ⟨m1, rfl⟩⟩ := hrel
   cases gk with
   | zero => exact absurd HA.out (by simp [clerestoryref1_SameAttrs.l0])
   | succ k1 =>
    have H := HA.out
    clear HA
    simp only [clerestoryref1_SameAttrs.l0] at H
    by_cases c4 : x5_1 < (l0.length : Int)
    ·rw [if_pos c4] at H
     have c4b0 : decide (x5_1 < (l0.length : Int)) = true := decide_eq_true c4
     clear c4
     by_cases c5 : 0 ≤ x5_1
     ·rw [if_pos c5] at H
      have c5b0 : decide (0 ≤ x5_1) = true := decide_eq_true c5
      clear c5
      by_cases c6 : x5_1 < (l1.length : Int)
      ·rw [if_pos c6] at H
       have c6b0 : decide (x5_1 < (l1.length : Int)) = true := decide_eq_true c6
       clear c6
       by_cases c7 : (!((((rd_T99 l0 x5_1).f0).toList) == (((rd_T99 l1 x5_1).f0).toList)) || (!((((rd_T99 l0 x5_1).f1).toList) == (((rd_T99 l1 x5_1).f1).toList)))) = true
       ·rw [if_pos c7] at H
        have c7b0 : (!((((rd_T99 l0 x5_1).f0).toList) == (((rd_T99 l1 x5_1).f0).toList)) || (!((((rd_T99 l0 x5_1).f1).toList) == (((rd_T99 l1 x5_1).f1).toList)))) = true := c7
        clear c7
        obtain rfl := Option.some.inj H
        have p240 : 0 ≤ (x5_1 : Int) := od (by first | (with_reducible assumption) | assumption)
        have q240 : x5_1 < (l0.length : Int) := od (by first | (with_reducible assumption) | assumption)
        obtain ⟨ad240, e240, hx240_0, hx240_1⟩ := at_T99 HR0.out x5_1 p240 q240
        cases e240
        replace p240 := eq_true p240
        replace q240 := eq_true q240
        have p241 : 0 ≤ (x5_1 : Int) := od (by first | (with_reducible assumption) | assumption)
        have q241 : x5_1 < (l1.length : Int) := od (by first | (with_reducible assumption) | assumption)
        obtain ⟨ad241, e241, hx241_0, hx241_1⟩ := at_T99 HR1.out x5_1 p241 q241
        cases e241
        replace p241 := eq_true p241
        replace q241 := eq_true q241
        go_wp2
        repeat (go_quiet (fail); try go_wp2)
        go_ret
        exact ⟨by first | rfl | (simp; done) | (simp [*]; done), by repeat (first | exact Drawn0.refl _ | apply Drawn0.step)⟩
       ·rw [if_neg c7] at H
        have c7b0 : (!((((rd_T99 l0 x5_1).f0).toList) == (((rd_T99 l1 x5_1).f0).toList)) || (!((((rd_T99 l0 x5_1).f1).toList) == (((rd_T99 l1 x5_1).f1).toList)))) = false := by simpa using c7
        clear c7
        have H' := aS H
        clear H
        have p240 : 0 ≤ (x5_1 : Int) := od (by first | (with_reducible assumption) | assumption)
        have q240 : x5_1 < (l0.length : Int) := od (by first | (with_reducible assumption) | assumption)
        obtain ⟨ad240, e240, hx240_0, hx240_1⟩ := at_T99 HR0.out x5_1 p240 q240
        cases e240
        replace p240 := eq_true p240
        replace q240 := eq_true q240
        have p241 : 0 ≤ (x5_1 : Int) := od (by first | (with_reducible assumption) | assumption)
        have q241 : x5_1 < (l1.length : Int) := od (by first | (with_reducible assumption) | assumption)
        obtain ⟨ad241, e241, hx241_0, hx241_1⟩ := at_T99 HR1.out x5_1 p241 q241
        cases e241
        replace p241 := eq_true p241
        replace q241 := eq_true q241
        go_wp2
        repeat (go_quiet (fail); try go_wp2)
        go_roundg k1
        case measure => have := HK1.out; omega
        case rel => exact ⟨(wrap64 (x5_1 + 1)), (by first | rfl | (simp; done) | simp [*]), H', ⟨by have := HK1.out; omega⟩, by repeat (first | exact Drawn0.refl _ | apply Drawn0.step)⟩
      ·rw [if_neg c6] at H
       exact absurd H (by simp)
     ·rw [if_neg c5] at H
      exact absurd H (by simp)
    ·rw [if_neg c4] at H
     have c4b0 : decide (x5_1 < (l0.length : Int)) = false := decide_eq_false c4
     clear c4
     obtain rfl := Option.some.inj H
     go_wp2
     repeat (go_quiet (fail); try go_wp2)
     go_ret
     exact ⟨by first | rfl | (simp; done) | (simp [*]; done), by repeat (first | exact Drawn0.refl _ | apply Drawn0.step)⟩
 ·rw [if_neg c3] at H
  have c3b0 : ((l0.length : Int) == (l1.length : Int)) = false := beq_eq_false_iff_ne.mpr c3
  have c3b1 : ((l0.length : Int) != (l1.length : Int)) = true := bne_iff_ne.mpr c3
  have c3b2 : (l0.length == l1.length) = false := by first | simpa using c3 | (simp at c3 ⊢; omega)
  obtain rfl := Option.some.inj H
  go_enter Try.func57, Try.ntmps57
  go_wp2
  repeat (go_quiet (fail); try go_wp2)
  go_ret
  exact ⟨by first | rfl | (simp; done) | (simp [*]; done), by repeat (first | exact Drawn0.refl _ | apply Drawn0.step)⟩

end Go.Proofs.Ythecjfkafpndoaa.XAc
