/- Written by this session's program (wip/xp) out of the translation as Lean prints it: for each Go function a Lean function and the proof that the code answers just so, on the conditions named in each statement. -/
import Derived.Test.YthecjfkafpndoaaXAc0
import Derived.Test.YthecjfkafpndoaaXAc2
import Derived.Test.YthecjfkafpndoaaXAc3
import Derived.Test.YthecjfkafpndoaaXAc6
import Derived.Test.YthecjfkafpndoaaXAc7
import Derived.Test.YthecjfkafpndoaaXAc8
namespace Go.Proofs.Ythecjfkafpndoaa.XAc
open Go.Proofs.Ythecjfkafpndoaa.Short Go.RowKit Go.Proofs.YthecjfkafpndoaaW.PrintWords Go.Proofs.YthecjfkafpndoaaW.PrintLast Go.Proofs.YthecjfkafpndoaaW.PrintMore
attribute [local go_sem] max2_int min2_int max_two min_two max_three min_three max_four min_four   -- for this text's walks alone
set_option linter.unusedVariables false
set_option linter.unusedSimpArgs false

/-! ### clerestorylaw1_ActiveTurns: function 3 -/
mutual
def clerestorylaw1_ActiveTurns.j0 : Nat → List (S25) → List (S25) → Int → List (S25) → Int → Int → Int → List (S25) → List (S25) → Option (Bool)
 | 0, _, _, _, _, _, _, _, _, _ => none
 | k + 1, x0, x5, x6, x7, x8, x9, x10, x11, x12 => if x9 = 0 then ((clerestoryref1_ActiveClear.f k x0).bind fun t280 => (clerestorylaw1_ActiveTurns.j1 k x0 x5 x6 x7 x8 x9 x10 x11 t280)) else (clerestorylaw1_ActiveTurns.j1 k x0 x5 x6 x7 x8 x9 x10 x11 x12)
def clerestorylaw1_ActiveTurns.j1 : Nat → List (S25) → List (S25) → Int → List (S25) → Int → Int → Int → List (S25) → List (S25) → Option (Bool)
 | 0, _, _, _, _, _, _, _, _, _ => none
 | k + 1, x0, x5, x6, x7, x8, x9, x10, x11, x12 => (clerestorylaw1_activeBegun.f k).bind fun t283 => (if t283 = true then ((active_Check.f x0).bind fun t284 => (if t284 = x9 then ((clerestoryref1_SameItems.f k x5 x11).bind fun t285 => (if t285 = true then (if x6 = x10 then ((clerestoryref1_SameItems.f k x7 x12).bind fun t286 => (if t286 = true then (some (x8 == x9)) else (some false))) else (some false)) else (some false))) else (some false))) else (some false))
end
def clerestorylaw1_ActiveTurns.f (k : Nat) (l0 : List (S25)) (a1_0 : Int) (a1_1 : ByteArray) (l1_2 : List (S99)) : Option (Bool) := if 0 ≤ (mn (l0.length : Int) 70) then (if (mn (l0.length : Int) 70) ≤ (l0.length : Int) then ((some (l0.take ((mn (l0.length : Int) 70) : Int).toNat : List (S25))).bind fun y250 => ((active_Push.f k y250 a1_0 a1_1 l1_2).bind fun bt255 => ((active_Clear.f k y250).bind fun bt259 => ((clerestoryref1_ActiveCheck.f k y250).bind fun t263 => ((some (([] : List (S25)) : List (S25))).bind fun y264 => (if y264.length + y250.length < 2932031007402 then ((some (y264 ++ y250 : List (S25))).bind fun y267 => ((some (([(⟨a1_0, a1_1, l1_2⟩ : S25)] : List (S25)) : List (S25))).bind fun y270 => (if y267.length + y270.length < 2932031007402 then ((clerestoryref1_ActiveCheck.f k (y267 ++ y270)).bind fun t276 => (if t276 = 0 then ((clerestoryref1_ActivePush.f k y250 a1_0 a1_1 l1_2).bind fun t277 => (clerestorylaw1_ActiveTurns.j0 k y250 bt255.1 bt255.2 bt259.1 bt259.2 t263 t276 t277 ([] : List (S25)))) else (clerestorylaw1_ActiveTurns.j0 k y250 bt255.1 bt255.2 bt259.1 bt259.2 t263 t276 ([] : List (S25)) ([] : List (S25))))) else (none)))) else (none))))))) else (none)) else (none)
theorem clerestorylaw1_ActiveTurns.mono_l : ∀ k, (∀ y0 y1 y2 y3 y4 y5 y6 y7 y8, LeO (clerestorylaw1_ActiveTurns.j0 k y0 y1 y2 y3 y4 y5 y6 y7 y8) (clerestorylaw1_ActiveTurns.j0 (k + 1) y0 y1 y2 y3 y4 y5 y6 y7 y8)) ∧ (∀ y0 y1 y2 y3 y4 y5 y6 y7 y8, LeO (clerestorylaw1_ActiveTurns.j1 k y0 y1 y2 y3 y4 y5 y6 y7 y8) (clerestorylaw1_ActiveTurns.j1 (k + 1) y0 y1 y2 y3 y4 y5 y6 y7 y8))
 | 0 => ⟨fun _ _ _ _ _ _ _ _ _ r h => by simp [clerestorylaw1_ActiveTurns.j0] at h, fun _ _ _ _ _ _ _ _ _ r h => by simp [clerestorylaw1_ActiveTurns.j1] at h⟩
 | k + 1 => by
  obtain ⟨ih0, ih1⟩ := clerestorylaw1_ActiveTurns.mono_l k
  refine ⟨?_, ?_⟩
  ·intro y0 y1 y2 y3 y4 y5 y6 y7 y8
   unfold clerestorylaw1_ActiveTurns.j0
   repeat' first
   | (with_reducible exact ih0 _ _ _ _ _ _ _ _ _)
   | (with_reducible exact ih1 _ _ _ _ _ _ _ _ _)
   | (with_reducible exact active_Clear.mono _ _)
   | (with_reducible exact active_Push.mono _ _ _ _ _)
   | (with_reducible exact clerestorylaw1_activeBegun.mono _)
   | (with_reducible exact clerestoryref1_ActiveCheck.mono _ _)
   | (with_reducible exact clerestoryref1_ActiveClear.mono _ _)
   | (with_reducible exact clerestoryref1_ActivePush.mono _ _ _ _ _)
   | (with_reducible exact clerestoryref1_SameItems.mono _ _ _)
   | (with_reducible exact LeO.refl _)
   | (with_reducible exact LeO.none _)
   | (with_reducible refine LeO.ite ?_ ?_)
   | (with_reducible refine LeO.bind ?_ (fun _ => ?_))
   | exact ih0 _ _ _ _ _ _ _ _ _
   | exact ih1 _ _ _ _ _ _ _ _ _
   | exact active_Clear.mono _ _
   | exact active_Push.mono _ _ _ _ _
   | exact clerestorylaw1_activeBegun.mono _
   | exact clerestoryref1_ActiveCheck.mono _ _
   | exact clerestoryref1_ActiveClear.mono _ _
   | exact clerestoryref1_ActivePush.mono _ _ _ _ _
   | exact clerestoryref1_SameItems.mono _ _ _
   | exact LeO.none _
   | refine LeO.ite ?_ ?_
   | refine LeO.bind ?_ (fun _ => ?_)
  ·intro y0 y1 y2 y3 y4 y5 y6 y7 y8
   unfold clerestorylaw1_ActiveTurns.j1
   repeat' first
   | (with_reducible exact ih0 _ _ _ _ _ _ _ _ _)
   | (with_reducible exact ih1 _ _ _ _ _ _ _ _ _)
   | (with_reducible exact active_Clear.mono _ _)
   | (with_reducible exact active_Push.mono _ _ _ _ _)
   | (with_reducible exact clerestorylaw1_activeBegun.mono _)
   | (with_reducible exact clerestoryref1_ActiveCheck.mono _ _)
   | (with_reducible exact clerestoryref1_ActiveClear.mono _ _)
   | (with_reducible exact clerestoryref1_ActivePush.mono _ _ _ _ _)
   | (with_reducible exact clerestoryref1_SameItems.mono _ _ _)
   | (with_reducible exact LeO.refl _)
   | (with_reducible exact LeO.none _)
   | (with_reducible refine LeO.ite ?_ ?_)
   | (with_reducible refine LeO.bind ?_ (fun _ => ?_))
   | exact ih0 _ _ _ _ _ _ _ _ _
   | exact ih1 _ _ _ _ _ _ _ _ _
   | exact active_Clear.mono _ _
   | exact active_Push.mono _ _ _ _ _
   | exact clerestorylaw1_activeBegun.mono _
   | exact clerestoryref1_ActiveCheck.mono _ _
   | exact clerestoryref1_ActiveClear.mono _ _
   | exact clerestoryref1_ActivePush.mono _ _ _ _ _
   | exact clerestoryref1_SameItems.mono _ _ _
   | exact LeO.none _
   | refine LeO.ite ?_ ?_
   | refine LeO.bind ?_ (fun _ => ?_)
theorem clerestorylaw1_ActiveTurns.mono : ∀ a0 a1 a2 a3 k, LeO (clerestorylaw1_ActiveTurns.f k a0 a1 a2 a3) (clerestorylaw1_ActiveTurns.f (k + 1) a0 a1 a2 a3) := by
 intro a0 a1 a2 a3 k
 obtain ⟨ih0, ih1⟩ := clerestorylaw1_ActiveTurns.mono_l k
 unfold clerestorylaw1_ActiveTurns.f
 repeat' first
  | (with_reducible exact ih0 _ _ _ _ _ _ _ _ _)
  | (with_reducible exact ih1 _ _ _ _ _ _ _ _ _)
  | (with_reducible exact active_Clear.mono _ _)
  | (with_reducible exact active_Push.mono _ _ _ _ _)
  | (with_reducible exact clerestorylaw1_activeBegun.mono _)
  | (with_reducible exact clerestoryref1_ActiveCheck.mono _ _)
  | (with_reducible exact clerestoryref1_ActiveClear.mono _ _)
  | (with_reducible exact clerestoryref1_ActivePush.mono _ _ _ _ _)
  | (with_reducible exact clerestoryref1_SameItems.mono _ _ _)
  | (with_reducible exact LeO.refl _)
  | (with_reducible exact LeO.none _)
  | (with_reducible refine LeO.ite ?_ ?_)
  | (with_reducible refine LeO.bind ?_ (fun _ => ?_))
  | exact ih0 _ _ _ _ _ _ _ _ _
  | exact ih1 _ _ _ _ _ _ _ _ _
  | exact active_Clear.mono _ _
  | exact active_Push.mono _ _ _ _ _
  | exact clerestorylaw1_activeBegun.mono _
  | exact clerestoryref1_ActiveCheck.mono _ _
  | exact clerestoryref1_ActiveClear.mono _ _
  | exact clerestoryref1_ActivePush.mono _ _ _ _ _
  | exact clerestoryref1_SameItems.mono _ _ _
  | exact LeO.none _
  | refine LeO.ite ?_ ?_
  | refine LeO.bind ?_ (fun _ => ?_)
def clerestorylaw1_ActiveTurns.T4 : Bool × List (List Nat × List Nat) := (true, [([], []), ([0], [0]), ([], []), ([], []), ([2, 3, 1], [2, 3]), ([], []), ([5], [5]), ([4, 6, 4], [4, 6]), ([7, 7], [7]), ([1, 8, 0, 1], [1]), ([8, 9, 0, 1, 2, 3, 4, 5, 6, 7, 8, 9], [8])])
def clerestorylaw1_ActiveTurns.B4 : List Nat := [0, 1, 0, 0, 15, 0, 32, 127, 255, 511, 1023]
theorem clerestorylaw1_ActiveTurns.tab4 : rtab .any (opsOf Try.f3 4) = clerestorylaw1_ActiveTurns.T4 := by kernel_rfl
theorem clerestorylaw1_ActiveTurns.bits4 : waitsOk clerestorylaw1_ActiveTurns.T4.2 clerestorylaw1_ActiveTurns.B4 = true := by kernel_rfl
set_option maxHeartbeats 8000000 in
set_option maxRecDepth 100000 in
theorem clerestorylaw1_ActiveTurns.calls (k : Nat) (P0_ : Nat → Prop) (A0 : Option Addr) (c0 : Nat) (l0 : List (S25)) (a1_0 : Int) (a1_1 : ByteArray) (P1_2_ : Nat → Prop) (A1_2 : Option Addr) (c1_2 : Nat) (l1_2 : List (S99)) (r : Bool) (w : World) (hs0 : Kd.V k25 25 w w.heap.size (fun k_ => P0_ k_) (.slice A0 l0.length c0) l0) (hs1_2 : Kd.V k99 99 w w.heap.size (fun k_ => P1_2_ k_) (.slice A1_2 l1_2.length c1_2) l1_2) (h : clerestorylaw1_ActiveTurns.f k l0 a1_0 a1_1 l1_2 = some r) :
 Calls Try.prog 3 #[.slice A0 l0.length c0, .agg #[.int .i64 a1_0, .string a1_1, .slice A1_2 l1_2.length c1_2]] w fun e w' => e = .returned (.bool r) ∧ Below w.heap.size w w' := by
 have hu25 := Try.underlying25
 have HO0 := aS (show Kd.V k25 25 w w.heap.size (fun k_ => ((P0_ k_ ∨ P1_2_ k_) ∨ w.heap.size ≤ k_)) (.slice A0 l0.length c0) l0 from Kd.V_mono hs0 (fun k_ hk => .inl (.inl hk)))
 have HO1_2 := aS (show Kd.V k99 99 w w.heap.size (fun k_ => ((P0_ k_ ∨ P1_2_ k_) ∨ w.heap.size ≤ k_)) (.slice A1_2 l1_2.length c1_2) l1_2 from Kd.V_mono hs1_2 (fun k_ hk => .inl (.inr hk)))
 have HB := aS (Below.refl w.heap.size w)
 have H : (if 0 ≤ (mn (l0.length : Int) 70) then (if (mn (l0.length : Int) 70) ≤ (l0.length : Int) then ((some (l0.take ((mn (l0.length : Int) 70) : Int).toNat : List (S25))).bind fun y250 => ((active_Push.f k y250 a1_0 a1_1 l1_2).bind fun bt255 => ((active_Clear.f k y250).bind fun bt259 => ((clerestoryref1_ActiveCheck.f k y250).bind fun t263 => ((some (([] : List (S25)) : List (S25))).bind fun y264 => (if y264.length + y250.length < 2932031007402 then ((some (y264 ++ y250 : List (S25))).bind fun y267 => ((some (([(⟨a1_0, a1_1, l1_2⟩ : S25)] : List (S25)) : List (S25))).bind fun y270 => (if y267.length + y270.length < 2932031007402 then ((clerestoryref1_ActiveCheck.f k (y267 ++ y270)).bind fun t276 => (if t276 = 0 then ((clerestoryref1_ActivePush.f k y250 a1_0 a1_1 l1_2).bind fun t277 => (clerestorylaw1_ActiveTurns.j0 k y250 bt255.1 bt255.2 bt259.1 bt259.2 t263 t276 t277 ([] : List (S25)))) else (clerestorylaw1_ActiveTurns.j0 k y250 bt255.1 bt255.2 bt259.1 bt259.2 t263 t276 ([] : List (S25)) ([] : List (S25))))) else (none)))) else (none))))))) else (none)) else (none)) = some r := h
 clear h
 obtain ⟨ji3, hji3⟩ : ∃ j_ : Int, (mn (l0.length : Int) 70) = j_ := ⟨_, rfl⟩
 replace H : (if 0 ≤ (ji3) then (if (ji3) ≤ (l0.length : Int) then ((some (l0.take ((ji3) : Int).toNat : List (S25))).bind fun y250 => ((active_Push.f k y250 a1_0 a1_1 l1_2).bind fun bt255 => ((active_Clear.f k y250).bind fun bt259 => ((clerestoryref1_ActiveCheck.f k y250).bind fun t263 => ((some (([] : List (S25)) : List (S25))).bind fun y264 => (if y264.length + y250.length < 2932031007402 then ((some (y264 ++ y250 : List (S25))).bind fun y267 => ((some (([(⟨a1_0, a1_1, l1_2⟩ : S25)] : List (S25)) : List (S25))).bind fun y270 => (if y267.length + y270.length < 2932031007402 then ((clerestoryref1_ActiveCheck.f k (y267 ++ y270)).bind fun t276 => (if t276 = 0 then ((clerestoryref1_ActivePush.f k y250 a1_0 a1_1 l1_2).bind fun t277 => (clerestorylaw1_ActiveTurns.j0 k y250 bt255.1 bt255.2 bt259.1 bt259.2 t263 t276 t277 ([] : List (S25)))) else (clerestorylaw1_ActiveTurns.j0 k y250 bt255.1 bt255.2 bt259.1 bt259.2 t263 t276 ([] : List (S25)) ([] : List (S25))))) else (none)))) else (none))))))) else (none)) else (none)) = some r := by first | (rw [hji3] at H; exact H) | (simp only [hji3] at H ⊢; exact H)
 (try (have hji3h : ji3 ≤ 70 := by (rw [← hji3]; unfold mn; (repeat' split) <;> omega)))
 (try (have hji3g : ji3 ≤ 64 := by omega))
 (try (have hji3l : 0 ≤ ji3 := by (rw [← hji3]; unfold mn; (repeat' split) <;> omega)))
 (try (have hji3m : 0 ≤ ji3 := by omega))
 have hji3_ : (if 70 < (l0.length : Int) then 70 else (l0.length : Int)) = ji3 := hji3
 by_cases c4 : 0 ≤ (ji3)
 ·rw [if_pos c4] at H
  have c4b0 := eq_true c4
  have c4b1 : decide (0 ≤ (ji3)) = true := decide_eq_true c4
  clear c4
  by_cases c5 : (ji3) ≤ (l0.length : Int)
  ·rw [if_pos c5] at H
   have c5b0 := eq_true c5
   have c5b1 : decide ((ji3) ≤ (l0.length : Int)) = true := decide_eq_true c5
   clear c5
   obtain ⟨y250, hy250⟩ : ∃ y_ : List (S25), y_ = (l0.take ((ji3) : Int).toNat) := ⟨_, rfl⟩
   replace H : ((active_Push.f k y250 a1_0 a1_1 l1_2).bind fun bt255 => ((active_Clear.f k y250).bind fun bt259 => ((clerestoryref1_ActiveCheck.f k y250).bind fun t263 => ((some (([] : List (S25)) : List (S25))).bind fun y264 => (if y264.length + y250.length < 2932031007402 then ((some (y264 ++ y250 : List (S25))).bind fun y267 => ((some (([(⟨a1_0, a1_1, l1_2⟩ : S25)] : List (S25)) : List (S25))).bind fun y270 => (if y267.length + y270.length < 2932031007402 then ((clerestoryref1_ActiveCheck.f k (y267 ++ y270)).bind fun t276 => (if t276 = 0 then ((clerestoryref1_ActivePush.f k y250 a1_0 a1_1 l1_2).bind fun t277 => (clerestorylaw1_ActiveTurns.j0 k y250 bt255.1 bt255.2 bt259.1 bt259.2 t263 t276 t277 ([] : List (S25)))) else (clerestorylaw1_ActiveTurns.j0 k y250 bt255.1 bt255.2 bt259.1 bt259.2 t263 t276 ([] : List (S25)) ([] : List (S25))))) else (none)))) else (none)))))) = some r := by first | (rw [hy250]; with_reducible exact H) | (have H2_ := (Option.bind_some _ _).symm.trans H; rw [hy250]; with_reducible exact H2_) | (have H2_ := (Option.bind_some _ _).symm.trans H; with_reducible exact H2_) | with_reducible exact H | (rw [hy250]; exact H) | exact H
   have Ny250 := aS hy250
   clear hy250
   replace H := Option.bind_eq_some_iff.mp H
   obtain ⟨⟨t255, t258⟩, A60, H⟩ := H
   replace H : ((active_Clear.f k y250).bind fun bt259 => ((clerestoryref1_ActiveCheck.f k y250).bind fun t263 => ((some (([] : List (S25)) : List (S25))).bind fun y264 => (if y264.length + y250.length < 2932031007402 then ((some (y264 ++ y250 : List (S25))).bind fun y267 => ((some (([(⟨a1_0, a1_1, l1_2⟩ : S25)] : List (S25)) : List (S25))).bind fun y270 => (if y267.length + y270.length < 2932031007402 then ((clerestoryref1_ActiveCheck.f k (y267 ++ y270)).bind fun t276 => (if t276 = 0 then ((clerestoryref1_ActivePush.f k y250 a1_0 a1_1 l1_2).bind fun t277 => (clerestorylaw1_ActiveTurns.j0 k y250 t255 t258 bt259.1 bt259.2 t263 t276 t277 ([] : List (S25)))) else (clerestorylaw1_ActiveTurns.j0 k y250 t255 t258 bt259.1 bt259.2 t263 t276 ([] : List (S25)) ([] : List (S25))))) else (none)))) else (none))))) = some r := H
   have A6 := aS A60
   clear A60
   replace H := Option.bind_eq_some_iff.mp H
   obtain ⟨⟨t259, t262⟩, A70, H⟩ := H
   replace H : ((clerestoryref1_ActiveCheck.f k y250).bind fun t263 => ((some (([] : List (S25)) : List (S25))).bind fun y264 => (if y264.length + y250.length < 2932031007402 then ((some (y264 ++ y250 : List (S25))).bind fun y267 => ((some (([(⟨a1_0, a1_1, l1_2⟩ : S25)] : List (S25)) : List (S25))).bind fun y270 => (if y267.length + y270.length < 2932031007402 then ((clerestoryref1_ActiveCheck.f k (y267 ++ y270)).bind fun t276 => (if t276 = 0 then ((clerestoryref1_ActivePush.f k y250 a1_0 a1_1 l1_2).bind fun t277 => (clerestorylaw1_ActiveTurns.j0 k y250 t255 t258 t259 t262 t263 t276 t277 ([] : List (S25)))) else (clerestorylaw1_ActiveTurns.j0 k y250 t255 t258 t259 t262 t263 t276 ([] : List (S25)) ([] : List (S25))))) else (none)))) else (none)))) = some r := H
   have A7 := aS A70
   clear A70
   replace H := Option.bind_eq_some_iff.mp H
   obtain ⟨t263, A80, H⟩ := H
   replace H : ((some (([] : List (S25)) : List (S25))).bind fun y264 => (if y264.length + y250.length < 2932031007402 then ((some (y264 ++ y250 : List (S25))).bind fun y267 => ((some (([(⟨a1_0, a1_1, l1_2⟩ : S25)] : List (S25)) : List (S25))).bind fun y270 => (if y267.length + y270.length < 2932031007402 then ((clerestoryref1_ActiveCheck.f k (y267 ++ y270)).bind fun t276 => (if t276 = 0 then ((clerestoryref1_ActivePush.f k y250 a1_0 a1_1 l1_2).bind fun t277 => (clerestorylaw1_ActiveTurns.j0 k y250 t255 t258 t259 t262 t263 t276 t277 ([] : List (S25)))) else (clerestorylaw1_ActiveTurns.j0 k y250 t255 t258 t259 t262 t263 t276 ([] : List (S25)) ([] : List (S25))))) else (none)))) else (none))) = some r := H
   have A8 := aS A80
   clear A80
   obtain ⟨y264, hy264⟩ : ∃ y_ : List (S25), y_ = (([] : List (S25))) := ⟨_, rfl⟩
   replace H : (if y264.length + y250.length < 2932031007402 then ((some (y264 ++ y250 : List (S25))).bind fun y267 => ((some (([(⟨a1_0, a1_1, l1_2⟩ : S25)] : List (S25)) : List (S25))).bind fun y270 => (if y267.length + y270.length < 2932031007402 then ((clerestoryref1_ActiveCheck.f k (y267 ++ y270)).bind fun t276 => (if t276 = 0 then ((clerestoryref1_ActivePush.f k y250 a1_0 a1_1 l1_2).bind fun t277 => (clerestorylaw1_ActiveTurns.j0 k y250 t255 t258 t259 t262 t263 t276 t277 ([] : List (S25)))) else (clerestorylaw1_ActiveTurns.j0 k y250 t255 t258 t259 t262 t263 t276 ([] : List (S25)) ([] : List (S25))))) else (none)))) else (none)) = some r := by first | (rw [hy264]; with_reducible exact H) | (have H2_ := (Option.bind_some _ _).symm.trans H; rw [hy264]; with_reducible exact H2_) | (have H2_ := (Option.bind_some _ _).symm.trans H; with_reducible exact H2_) | with_reducible exact H | (rw [hy264]; exact H) | exact H
   have Ny264 := aS hy264
   clear hy264
   by_cases c9 : y264.length + y250.length < 2932031007402
   ·rw [if_pos c9] at H
    have LMc9 := aS c9
    clear c9
    obtain ⟨y267, hy267⟩ : ∃ y_ : List (S25), y_ = (y264 ++ y250) := ⟨_, rfl⟩
    replace H : ((some (([(⟨a1_0, a1_1, l1_2⟩ : S25)] : List (S25)) : List (S25))).bind fun y270 => (if y267.length + y270.length < 2932031007402 then ((clerestoryref1_ActiveCheck.f k (y267 ++ y270)).bind fun t276 => (if t276 = 0 then ((clerestoryref1_ActivePush.f k y250 a1_0 a1_1 l1_2).bind fun t277 => (clerestorylaw1_ActiveTurns.j0 k y250 t255 t258 t259 t262 t263 t276 t277 ([] : List (S25)))) else (clerestorylaw1_ActiveTurns.j0 k y250 t255 t258 t259 t262 t263 t276 ([] : List (S25)) ([] : List (S25))))) else (none))) = some r := by first | (rw [hy267]; with_reducible exact H) | (have H2_ := (Option.bind_some _ _).symm.trans H; rw [hy267]; with_reducible exact H2_) | (have H2_ := (Option.bind_some _ _).symm.trans H; with_reducible exact H2_) | with_reducible exact H | (rw [hy267]; exact H) | exact H
    have Ny267 := aS hy267
    clear hy267
    obtain ⟨y270, hy270⟩ : ∃ y_ : List (S25), y_ = (([(⟨a1_0, a1_1, l1_2⟩ : S25)] : List (S25))) := ⟨_, rfl⟩
    replace H : (if y267.length + y270.length < 2932031007402 then ((clerestoryref1_ActiveCheck.f k (y267 ++ y270)).bind fun t276 => (if t276 = 0 then ((clerestoryref1_ActivePush.f k y250 a1_0 a1_1 l1_2).bind fun t277 => (clerestorylaw1_ActiveTurns.j0 k y250 t255 t258 t259 t262 t263 t276 t277 ([] : List (S25)))) else (clerestorylaw1_ActiveTurns.j0 k y250 t255 t258 t259 t262 t263 t276 ([] : List (S25)) ([] : List (S25))))) else (none)) = some r := by first | (rw [hy270]; with_reducible exact H) | (have H2_ := (Option.bind_some _ _).symm.trans H; rw [hy270]; with_reducible exact H2_) | (have H2_ := (Option.bind_some _ _).symm.trans H; with_reducible exact H2_) | with_reducible exact H | (rw [hy270]; exact H) | exact H
    have Ny270 := aS hy270
    clear hy270
    by_cases c10 : y267.length + y270.length < 2932031007402
    ·rw [if_pos c10] at H
     have LMc10 := aS c10
     clear c10
     obtain ⟨y273, hy273⟩ : ∃ y_ : List (S25), y_ = (y267 ++ y270) := ⟨_, rfl⟩
     replace H : ((clerestoryref1_ActiveCheck.f k y273).bind fun t276 => (if t276 = 0 then ((clerestoryref1_ActivePush.f k y250 a1_0 a1_1 l1_2).bind fun t277 => (clerestorylaw1_ActiveTurns.j0 k y250 t255 t258 t259 t262 t263 t276 t277 ([] : List (S25)))) else (clerestorylaw1_ActiveTurns.j0 k y250 t255 t258 t259 t262 t263 t276 ([] : List (S25)) ([] : List (S25))))) = some r := by first | (rw [hy273]; with_reducible exact H) | (have H2_ := (Option.bind_some _ _).symm.trans H; rw [hy273]; with_reducible exact H2_) | (have H2_ := (Option.bind_some _ _).symm.trans H; with_reducible exact H2_) | with_reducible exact H | (rw [hy273]; exact H) | exact H
     have Ny273 := aS hy273
     clear hy273
     replace H := Option.bind_eq_some_iff.mp H
     obtain ⟨t276, A110, H⟩ := H
     replace H : (if t276 = 0 then ((clerestoryref1_ActivePush.f k y250 a1_0 a1_1 l1_2).bind fun t277 => (clerestorylaw1_ActiveTurns.j0 k y250 t255 t258 t259 t262 t263 t276 t277 ([] : List (S25)))) else (clerestorylaw1_ActiveTurns.j0 k y250 t255 t258 t259 t262 t263 t276 ([] : List (S25)) ([] : List (S25)))) = some r := H
     have A11 := aS A110
     clear A110
     have HC12 := aS H
     clear H
     go_enter Try.func3, Try.ntmps3
     try go_wp2_with (first | ((with_reducible refine gate_dst (N := 3) rfl ?_); refine box_event ?hg (N := 3) ?hd (cs := #[.int .i64 a1_0, .string a1_1, .slice A1_2 l1_2.length c1_2]) (t := 25) ?hr ?_; (case hd => rfl); (case hg => rfl); (case hr => first | (go_simp; done) | (go_simp; rfl)); intro gb249 hg w13 hbox hb; have n0_ := aS (Kd.V_below (Kd.V_elderB (by (with_reducible repeat (first | apply vA | apply vN | apply vD)); exact HO0.out) gb249 (Nat.le_of_eq hg.symm)) hb); have n1_ := aS (Kd.V_below (Kd.V_elderB (by (with_reducible repeat (first | apply vA | apply vN | apply vD)); exact HO1_2.out) gb249 (Nat.le_of_eq hg.symm)) hb); have n2_ := aS (below_step (by repeat (first | (with_reducible first | exact HB.out | apply bA | apply bN | apply bD) | exact HB.out)) hb); have n3_ := aS (hbox); have n4_ := aS ((by rw [hg]; exact (below_size (by repeat (first | (with_reducible first | exact HB.out | apply bA | apply bN | apply bD) | exact HB.out))) : w.heap.size ≤ gb249)); have n5_ := aS ((by rw [hg]; exact (below_size (by repeat (first | (with_reducible first | exact HB.out | apply bA | apply bN | apply bD) | exact HB.out))) : w.heap.size ≤ gb249)); clear HO0; clear HO1_2; clear HB; have HO0 := n0_; have HO1_2 := n1_; have HB := n2_; have BK249 := n3_; have GW249 := n4_; have GE249 := n5_; clear n0_ n1_ n2_ n3_ n4_ n5_; clear hb hbox hg; have q14 : ((ji3) : Int) ≤ ((l0.length : Int) : Int) := od (by first | (with_reducible assumption) | assumption); obtain ⟨i014, hi014, _, hsz14, _⟩ := info_parts info25; have hroom14 : l0.length ≤ c0 := (Kd.V_reads' HO0.out).2.1; have hC14 : Kd.F k25 _ _ A0 l0.length l0 := (Kd.V_at (base := w.heap.size) HO0.out).2.2; have hcut14 := cut_to (P := Try.prog) 22 25 .i64 Try.underlying22 hi014 A0 l0.length c0 (ji3) (od (by first | (with_reducible assumption) | assumption)) q14 hroom14; have hr14 := Kd.F_take (m := ((ji3) : Int).toNat) hC14 (by omega); have hy14 : y250.length = ((ji3) : Int).toNat := (by rw [Ny250.out, List.length_take]; omega); rw [← Ny250.out] at hr14; rw [← hy14] at hcut14; have HO254 := aS (show Kd.V k25 25 _ w.heap.size _ (.slice A0 y250.length c0) y250 from Kd.V_mk (by omega) hr14); have HC254 := aS (show y250.length ≤ c0 from by omega); clear hr14 hC14 hroom14 hi014 hsz14; have KY14 := aS hy14; clear hy14; replace q14 := eq_true q14; have hcz15_0 : w13.cell? ⟨gb249, 0, none⟩ = some (.int .i64 a1_0) := (blk_cell BK249.out 0).trans rfl; have hcz15_1 : w13.cell? ⟨gb249, 1, none⟩ = some (.string a1_1) := (blk_cell BK249.out 1).trans rfl; have hcz15_2 : w13.cell? ⟨gb249, 2, none⟩ = some (.slice A1_2 l1_2.length c1_2) := (blk_cell BK249.out 2).trans rfl; have hfz15_0 := blk_frozen BK249.out 0; have hfz15_1 := blk_frozen BK249.out 1; have hfz15_2 := blk_frozen BK249.out 2) | ((with_reducible refine gate_callee (f := 10) rfl ?_); refine goesL_ (some 21) rfl rfl Try.func10 (by kernel_rfl) rfl #[.slice A0 y250.length c0, .agg #[.int .i64 a1_0, .string a1_1, .slice A1_2 l1_2.length c1_2]] rfl (by (try simp only [List.map_toArray, List.map_cons, List.map_nil]); first | done | rfl | (simp only [List.length_drop, List.length_take]; rfl)) ?_; (with_reducible refine (active_Push.calls k (fun k_ => (((P0_ k_ ∨ P1_2_ k_) ∨ w.heap.size ≤ k_) ∧ k_ ≠ gb249)) _ _ y250 a1_0 a1_1 (fun k_ => (((P0_ k_ ∨ P1_2_ k_) ∨ w.heap.size ≤ k_) ∧ k_ ≠ gb249)) _ _ l1_2 t255 t258 _ ?side1 ?side2 A6.out).mono ?_); (case side1 => exact HO254.out); (case side2 => exact HO1_2.out); rintro e w16 ⟨v256, rfl, ho0, hb⟩; refine ⟨_, rfl, ?_⟩; have n0_ := aS (Kd.V_elder' (by (with_reducible repeat (first | apply vA | apply vN | apply vD)); exact HO0.out) (Kd.N_base ho0) hb); have n1_ := aS (Kd.V_elder' (by (with_reducible repeat (first | apply vA | apply vN | apply vD)); exact HO1_2.out) (Kd.N_base ho0) hb); have n2_ := aS (Kd.V_elder' (by (with_reducible repeat (first | apply vA | apply vN | apply vD)); exact HO254.out) (Kd.N_base ho0) hb); have n3_ := aS (Kd.N_lower (Kd.N_mono (ok' := fun k_ => ((P0_ k_ ∨ P1_2_ k_) ∨ w.heap.size ≤ k_) ∧ k_ ≠ gb249) ho0 (fun k_ hk_ => ⟨Or.elim hk_ (fun hs_ => Or.elim hs_ (fun hs_ => hs_.1) (fun hs_ => hs_.1)) (fun hn_ => (.inr (Nat.le_trans (below_size (by repeat (first | (with_reducible first | exact HB.out | apply bA | apply bN | apply bD | refine bS ?_ GE249.out) | exact HB.out))) hn_))), Or.elim hk_ (fun hs_ => Or.elim hs_ (fun hs_ => hs_.2) (fun hs_ => hs_.2)) (fun hn_ => (Kd.freshB (g := gb249) (o := .cells #[.int .i64 a1_0, .string a1_1, .slice A1_2 l1_2.length c1_2] 25 (0, 0)) (by (with_reducible repeat (first | refine kN ?_ _ | refine kD ?_ | refine kA ?_ _)); exact BK249.out) k_ hn_))⟩)) (below_size (by repeat (first | (with_reducible first | exact HB.out | apply bA | apply bN | apply bD | refine bS ?_ GE249.out) | exact HB.out)))); have n4_ := aS (blk_below (g := gb249) (o := .cells #[.int .i64 a1_0, .string a1_1, .slice A1_2 l1_2.length c1_2] 25 (0, 0)) (by (with_reducible repeat (first | refine kN ?_ _ | refine kD ?_ | refine kA ?_ _)); exact BK249.out) hb); have n5_ := aS (below_step (by repeat (first | (with_reducible first | exact HB.out | apply bA | apply bN | apply bD | refine bS ?_ GE249.out) | exact HB.out)) hb); clear HO0; clear HO1_2; clear HO254; clear BK249; clear HB; have HO0 := n0_; have HO1_2 := n1_; have HO254 := n2_; have HO257 := n3_; have BK249 := n4_; have HB := n5_; clear n0_ n1_ n2_ n3_ n4_ n5_; (try clear hb); (try clear hb2); (try clear hk); (try clear hi); (try clear ho0)) | ((with_reducible refine gate_callee (f := 11) rfl ?_); refine goesL_ (some 26) rfl rfl Try.func11 (by kernel_rfl) rfl #[.slice A0 y250.length c0] rfl (by (try simp only [List.map_toArray, List.map_cons, List.map_nil]); first | done | rfl | (simp only [List.length_drop, List.length_take]; rfl)) ?_; (with_reducible refine (active_Clear.calls k (fun k_ => ((((P0_ k_ ∨ P1_2_ k_) ∨ w.heap.size ≤ k_) ∧ k_ ≠ gb249) ∧ some k_ ≠ (v256 : Value).ownBlock)) _ _ y250 t259 t262 _ ?side1 A7.out).mono ?_); (case side1 => exact HO254.out); rintro e w17 ⟨v260, rfl, ho0, hb⟩; refine ⟨_, rfl, ?_⟩; have n0_ := aS (Kd.V_below (by (with_reducible repeat (first | apply vA | apply vN | apply vD)); exact HO0.out) hb); have n1_ := aS (Kd.V_below (by (with_reducible repeat (first | apply vA | apply vN | apply vD)); exact HO1_2.out) hb); have n2_ := aS (Kd.V_below (by (with_reducible repeat (first | apply vA | apply vN | apply vD)); exact HO254.out) hb); have n3_ := aS (Kd.N_below (by (with_reducible repeat (first | apply nA | apply nN | apply nD)); exact HO257.out) hb); have n4_ := aS (Kd.V_lower (Kd.V_mono (ok' := fun k_ => ((P0_ k_ ∨ P1_2_ k_) ∨ w.heap.size ≤ k_) ∧ some k_ ≠ (v256 : Value).ownBlock ∧ k_ ≠ gb249) ho0 (fun k_ hk_ => ⟨Or.elim hk_ (fun hs_ => hs_.1.1) (fun hn_ => (.inr (Nat.le_trans (below_size (by repeat (first | (with_reducible first | exact HB.out | apply bA | apply bN | apply bD | refine bS ?_ GE249.out) | exact HB.out))) hn_))), Or.elim hk_ (fun hs_ => hs_.2) (fun hn_ => (Kd.fresh' (Kd.N_lt (by (with_reducible repeat (first | apply nA | apply nN | apply nD)); exact HO257.out)) k_ hn_)), Or.elim hk_ (fun hs_ => hs_.1.2) (fun hn_ => (Kd.freshB (g := gb249) (o := .cells #[.int .i64 a1_0, .string a1_1, .slice A1_2 l1_2.length c1_2] 25 (0, 0)) (by (with_reducible repeat (first | refine kN ?_ _ | refine kD ?_ | refine kA ?_ _)); exact BK249.out) k_ hn_))⟩)) (below_size (by repeat (first | (with_reducible first | exact HB.out | apply bA | apply bN | apply bD | refine bS ?_ GE249.out) | exact HB.out)))); have n5_ := aS (blk_below (g := gb249) (o := .cells #[.int .i64 a1_0, .string a1_1, .slice A1_2 l1_2.length c1_2] 25 (0, 0)) (by (with_reducible repeat (first | refine kN ?_ _ | refine kD ?_ | refine kA ?_ _)); exact BK249.out) hb); have n6_ := aS (below_step (by repeat (first | (with_reducible first | exact HB.out | apply bA | apply bN | apply bD | refine bS ?_ GE249.out) | exact HB.out)) hb); clear HO0; clear HO1_2; clear HO254; clear HO257; clear BK249; clear HB; have HO0 := n0_; have HO1_2 := n1_; have HO254 := n2_; have HO257 := n3_; have HO261 := n4_; have BK249 := n5_; have HB := n6_; clear n0_ n1_ n2_ n3_ n4_ n5_ n6_; (try clear hb); (try clear hb2); (try clear hk); (try clear hi); (try clear ho0)))
     have n0_ := aS (Kd.V_drew HO0.out)
     have n1_ := aS (Kd.V_drew HO1_2.out)
     have n2_ := aS (Kd.V_drew HO254.out)
     have n3_ := aS (Kd.N_drew HO257.out)
     have n4_ := aS (Kd.V_drew HO261.out)
     have n5_ := aS (blk_drew BK249.out)
     have n6_ := aS (below_drew1 HB.out)
     clear HO0
     clear HO1_2
     clear HO254
     clear HO257
     clear HO261
     clear BK249
     clear HB
     have HO0 := n0_
     have HO1_2 := n1_
     have HO254 := n2_
     have HO257 := n3_
     have HO261 := n4_
     have BK249 := n5_
     have HB := n6_
     clear n0_ n1_ n2_ n3_ n4_ n5_ n6_
     refine start_ (n := 11) (S := fun w' => w'.cell? ⟨gb249, 0, none⟩ = some (.int .i64 a1_0) ∧ w'.cell? ⟨gb249, 1, none⟩ = some (.string a1_1) ∧ w'.cell? ⟨gb249, 2, none⟩ = some (.slice A1_2 l1_2.length c1_2)) (ds := []) #[false, false, false, false, false, false, false, false, false, false, false] (by kernel_rfl) rfl rfl ⟨(blk_cell BK249.out 0).trans rfl, (blk_cell BK249.out 1).trans rfl, (blk_cell BK249.out 2).trans rfl⟩ (fun hHeld => ?_); refine with_tabW clerestorylaw1_ActiveTurns.tab4 clerestorylaw1_ActiveTurns.bits4 (fun HT_ HW_ => ?_)
     generalize w17.drew = w18 at HO0 HO1_2 HO254 HO257 HO261 BK249 HB hHeld ⊢
     refine pure_ (i := 0) (N := some 29) (v := ?_) (a' := ?_) #[true, false, false, false, false, false, false, false, false, false, false] rfl rfl (any_of HT_.out (by kernel_rfl)) (fun _ _ _ h => h) (Or.inl ⟨by rfl, ?_⟩) ?_ ?_
     rotate_left
     ·intro w'
      go_simp
      with_reducible rfl
     rotate_left
     ·simp only [Act.put, s1, s2, s3, i64_w, i32_w]
      rfl
     refine pure_ (i := 3) (N := some 32) (v := ?_) (a' := ?_) #[true, false, false, true, false, false, false, false, false, false, false] rfl rfl (any_of HT_.out (by kernel_rfl)) (fun _ _ _ h => h) (Or.inl ⟨by rfl, ?_⟩) ?_ ?_
     rotate_left
     ·intro w'
      go_simp
      with_reducible rfl
     rotate_left
     ·simp only [Act.put, s1, s2, s3, i64_w, i32_w]
      rfl
     refine take_ (i := 5) (N := some 34) (v := ?_) (a' := ?_) #[true, false, false, true, false, true, false, false, false, false, false] rfl rfl (take_ofW HT_.out HW_.out (by kernel_rfl)) (fun _ _ _ h => h) (Or.inl ⟨by rfl, ?_⟩) hHeld ?_ ?_
     rotate_left
     ·rintro w' ⟨s0, s1, s2⟩
      go_simp
      with_reducible rfl
     rotate_left
     ·simp only [Act.put, s1, s2, s3, i64_w, i32_w]
      rfl
     refine join_ (σ := Value × Value × Value) 4 #[true, true, true, true, true, true, true, false, false, false, false] (fun s_ => [(30, .int .i64 t263), (31, s_.1), (33, s_.2.1), (35, s_.2.2)]) (fun s_ w' => (w'.cell? ⟨gb249, 0, none⟩ = some (.int .i64 a1_0) ∧ w'.cell? ⟨gb249, 1, none⟩ = some (.string a1_1) ∧ w'.cell? ⟨gb249, 2, none⟩ = some (.slice A1_2 l1_2.length c1_2)) ∧ (Kd.V k25 25 w' w.heap.size (fun k_ => ((P0_ k_ ∨ P1_2_ k_) ∨ w.heap.size ≤ k_) ∧ some k_ ≠ (v256 : Value).ownBlock ∧ some k_ ≠ (s_.2.1 : Value).ownBlock ∧ some k_ ≠ (s_.2.2 : Value).ownBlock ∧ k_ ≠ gb249) (.slice A0 l0.length c0) l0) ∧ (Kd.V k99 99 w' w.heap.size (fun k_ => ((P0_ k_ ∨ P1_2_ k_) ∨ w.heap.size ≤ k_) ∧ some k_ ≠ (v256 : Value).ownBlock ∧ some k_ ≠ (s_.2.1 : Value).ownBlock ∧ some k_ ≠ (s_.2.2 : Value).ownBlock ∧ k_ ≠ gb249) (.slice A1_2 l1_2.length c1_2) l1_2) ∧ (Kd.V k25 25 w' w.heap.size (fun k_ => ((P0_ k_ ∨ P1_2_ k_) ∨ w.heap.size ≤ k_) ∧ some k_ ≠ (v256 : Value).ownBlock ∧ some k_ ≠ (s_.2.1 : Value).ownBlock ∧ some k_ ≠ (s_.2.2 : Value).ownBlock ∧ k_ ≠ gb249) (.slice A0 y250.length c0) y250) ∧ (Kd.N k25 25 w' w.heap.size (fun k_ => ((P0_ k_ ∨ P1_2_ k_) ∨ w.heap.size ≤ k_) ∧ some k_ ≠ (s_.2.1 : Value).ownBlock ∧ some k_ ≠ (s_.2.2 : Value).ownBlock ∧ k_ ≠ gb249) v256 t255) ∧ (Kd.V k25 25 w' w.heap.size (fun k_ => ((P0_ k_ ∨ P1_2_ k_) ∨ w.heap.size ≤ k_) ∧ some k_ ≠ (v256 : Value).ownBlock ∧ some k_ ≠ (s_.2.1 : Value).ownBlock ∧ some k_ ≠ (s_.2.2 : Value).ownBlock ∧ k_ ≠ gb249) v260 t259) ∧ (Kd.N k25 25 w' w.heap.size (fun k_ => ((P0_ k_ ∨ P1_2_ k_) ∨ w.heap.size ≤ k_) ∧ some k_ ≠ (v256 : Value).ownBlock ∧ some k_ ≠ (s_.2.2 : Value).ownBlock ∧ k_ ≠ gb249) s_.2.1 y267) ∧ (Kd.N k25 25 w' w.heap.size (fun k_ => ((P0_ k_ ∨ P1_2_ k_) ∨ w.heap.size ≤ k_) ∧ some k_ ≠ (v256 : Value).ownBlock ∧ some k_ ≠ (s_.2.1 : Value).ownBlock ∧ k_ ≠ gb249) s_.2.2 y270) ∧ (w'.heap[gb249]? = some (.cells #[.int .i64 a1_0, .string a1_1, .slice A1_2 l1_2.length c1_2] 25 (0, 0))) ∧ (Below w.heap.size w w')) ?_ ?_
     rotate_left
     ·intro hJ1_2_4_6
      refine join_ (σ := Value × Value) 5 #[true, true, true, true, true, true, false, false, false, false, false] (fun s_ => [(30, .int .i64 t263), (31, s_.1), (33, s_.2)]) (fun s_ w' => (w'.cell? ⟨gb249, 0, none⟩ = some (.int .i64 a1_0) ∧ w'.cell? ⟨gb249, 1, none⟩ = some (.string a1_1) ∧ w'.cell? ⟨gb249, 2, none⟩ = some (.slice A1_2 l1_2.length c1_2)) ∧ (Kd.V k25 25 w' w.heap.size (fun k_ => ((P0_ k_ ∨ P1_2_ k_) ∨ w.heap.size ≤ k_) ∧ some k_ ≠ (v256 : Value).ownBlock ∧ some k_ ≠ (s_.2 : Value).ownBlock ∧ k_ ≠ gb249) (.slice A0 l0.length c0) l0) ∧ (Kd.V k99 99 w' w.heap.size (fun k_ => ((P0_ k_ ∨ P1_2_ k_) ∨ w.heap.size ≤ k_) ∧ some k_ ≠ (v256 : Value).ownBlock ∧ some k_ ≠ (s_.2 : Value).ownBlock ∧ k_ ≠ gb249) (.slice A1_2 l1_2.length c1_2) l1_2) ∧ (Kd.V k25 25 w' w.heap.size (fun k_ => ((P0_ k_ ∨ P1_2_ k_) ∨ w.heap.size ≤ k_) ∧ some k_ ≠ (v256 : Value).ownBlock ∧ some k_ ≠ (s_.2 : Value).ownBlock ∧ k_ ≠ gb249) (.slice A0 y250.length c0) y250) ∧ (Kd.N k25 25 w' w.heap.size (fun k_ => ((P0_ k_ ∨ P1_2_ k_) ∨ w.heap.size ≤ k_) ∧ some k_ ≠ (s_.2 : Value).ownBlock ∧ k_ ≠ gb249) v256 t255) ∧ (Kd.V k25 25 w' w.heap.size (fun k_ => ((P0_ k_ ∨ P1_2_ k_) ∨ w.heap.size ≤ k_) ∧ some k_ ≠ (v256 : Value).ownBlock ∧ some k_ ≠ (s_.2 : Value).ownBlock ∧ k_ ≠ gb249) v260 t259) ∧ (Kd.N k25 25 w' w.heap.size (fun k_ => ((P0_ k_ ∨ P1_2_ k_) ∨ w.heap.size ≤ k_) ∧ some k_ ≠ (v256 : Value).ownBlock ∧ k_ ≠ gb249) s_.2 y267) ∧ (w'.heap[gb249]? = some (.cells #[.int .i64 a1_0, .string a1_1, .slice A1_2 l1_2.length c1_2] 25 (0, 0))) ∧ (Below w.heap.size w w')) ?_ ?_
      rotate_left
      ·intro hJ1_2_4
       refine join_ (σ := Value × Value) 5 #[true, true, true, true, false, true, true, false, false, false, false] (fun s_ => [(30, .int .i64 t263), (31, s_.1), (35, s_.2)]) (fun s_ w' => (w'.cell? ⟨gb249, 0, none⟩ = some (.int .i64 a1_0) ∧ w'.cell? ⟨gb249, 1, none⟩ = some (.string a1_1) ∧ w'.cell? ⟨gb249, 2, none⟩ = some (.slice A1_2 l1_2.length c1_2)) ∧ (Kd.V k25 25 w' w.heap.size (fun k_ => ((P0_ k_ ∨ P1_2_ k_) ∨ w.heap.size ≤ k_) ∧ some k_ ≠ (v256 : Value).ownBlock ∧ some k_ ≠ (s_.1 : Value).ownBlock ∧ some k_ ≠ (s_.2 : Value).ownBlock ∧ k_ ≠ gb249) (.slice A0 l0.length c0) l0) ∧ (Kd.V k99 99 w' w.heap.size (fun k_ => ((P0_ k_ ∨ P1_2_ k_) ∨ w.heap.size ≤ k_) ∧ some k_ ≠ (v256 : Value).ownBlock ∧ some k_ ≠ (s_.1 : Value).ownBlock ∧ some k_ ≠ (s_.2 : Value).ownBlock ∧ k_ ≠ gb249) (.slice A1_2 l1_2.length c1_2) l1_2) ∧ (Kd.V k25 25 w' w.heap.size (fun k_ => ((P0_ k_ ∨ P1_2_ k_) ∨ w.heap.size ≤ k_) ∧ some k_ ≠ (v256 : Value).ownBlock ∧ some k_ ≠ (s_.1 : Value).ownBlock ∧ some k_ ≠ (s_.2 : Value).ownBlock ∧ k_ ≠ gb249) (.slice A0 y250.length c0) y250) ∧ (Kd.N k25 25 w' w.heap.size (fun k_ => ((P0_ k_ ∨ P1_2_ k_) ∨ w.heap.size ≤ k_) ∧ some k_ ≠ (s_.1 : Value).ownBlock ∧ some k_ ≠ (s_.2 : Value).ownBlock ∧ k_ ≠ gb249) v256 t255) ∧ (Kd.V k25 25 w' w.heap.size (fun k_ => ((P0_ k_ ∨ P1_2_ k_) ∨ w.heap.size ≤ k_) ∧ some k_ ≠ (v256 : Value).ownBlock ∧ some k_ ≠ (s_.1 : Value).ownBlock ∧ some k_ ≠ (s_.2 : Value).ownBlock ∧ k_ ≠ gb249) v260 t259) ∧ (Kd.N k25 25 w' w.heap.size (fun k_ => ((P0_ k_ ∨ P1_2_ k_) ∨ w.heap.size ≤ k_) ∧ some k_ ≠ (v256 : Value).ownBlock ∧ some k_ ≠ (s_.2 : Value).ownBlock ∧ k_ ≠ gb249) s_.1 y264) ∧ (Kd.N k25 25 w' w.heap.size (fun k_ => ((P0_ k_ ∨ P1_2_ k_) ∨ w.heap.size ≤ k_) ∧ some k_ ≠ (v256 : Value).ownBlock ∧ some k_ ≠ (s_.1 : Value).ownBlock ∧ k_ ≠ gb249) s_.2 y270) ∧ (w'.heap[gb249]? = some (.cells #[.int .i64 a1_0, .string a1_1, .slice A1_2 l1_2.length c1_2] 25 (0, 0))) ∧ (Below w.heap.size w w')) ?_ ?_
       rotate_left
       ·intro hJ1_2_6
        refine join_ (σ := Value) 6 #[true, true, true, true, false, true, false, false, false, false, false] (fun s_ => [(30, .int .i64 t263), (31, s_)]) (fun s_ w' => (w'.cell? ⟨gb249, 0, none⟩ = some (.int .i64 a1_0) ∧ w'.cell? ⟨gb249, 1, none⟩ = some (.string a1_1) ∧ w'.cell? ⟨gb249, 2, none⟩ = some (.slice A1_2 l1_2.length c1_2)) ∧ (Kd.V k25 25 w' w.heap.size (fun k_ => ((P0_ k_ ∨ P1_2_ k_) ∨ w.heap.size ≤ k_) ∧ some k_ ≠ (v256 : Value).ownBlock ∧ some k_ ≠ (s_ : Value).ownBlock ∧ k_ ≠ gb249) (.slice A0 l0.length c0) l0) ∧ (Kd.V k99 99 w' w.heap.size (fun k_ => ((P0_ k_ ∨ P1_2_ k_) ∨ w.heap.size ≤ k_) ∧ some k_ ≠ (v256 : Value).ownBlock ∧ some k_ ≠ (s_ : Value).ownBlock ∧ k_ ≠ gb249) (.slice A1_2 l1_2.length c1_2) l1_2) ∧ (Kd.V k25 25 w' w.heap.size (fun k_ => ((P0_ k_ ∨ P1_2_ k_) ∨ w.heap.size ≤ k_) ∧ some k_ ≠ (v256 : Value).ownBlock ∧ some k_ ≠ (s_ : Value).ownBlock ∧ k_ ≠ gb249) (.slice A0 y250.length c0) y250) ∧ (Kd.N k25 25 w' w.heap.size (fun k_ => ((P0_ k_ ∨ P1_2_ k_) ∨ w.heap.size ≤ k_) ∧ some k_ ≠ (s_ : Value).ownBlock ∧ k_ ≠ gb249) v256 t255) ∧ (Kd.V k25 25 w' w.heap.size (fun k_ => ((P0_ k_ ∨ P1_2_ k_) ∨ w.heap.size ≤ k_) ∧ some k_ ≠ (v256 : Value).ownBlock ∧ some k_ ≠ (s_ : Value).ownBlock ∧ k_ ≠ gb249) v260 t259) ∧ (Kd.N k25 25 w' w.heap.size (fun k_ => ((P0_ k_ ∨ P1_2_ k_) ∨ w.heap.size ≤ k_) ∧ some k_ ≠ (v256 : Value).ownBlock ∧ k_ ≠ gb249) s_ y264) ∧ (w'.heap[gb249]? = some (.cells #[.int .i64 a1_0, .string a1_1, .slice A1_2 l1_2.length c1_2] 25 (0, 0))) ∧ (Below w.heap.size w w')) ?_ ?_
        rotate_left
        ·intro hJ1_2
         refine join_ (σ := Value) 6 #[true, true, false, true, false, true, true, false, false, false, false] (fun s_ => [(30, .int .i64 t263), (35, s_)]) (fun s_ w' => (w'.cell? ⟨gb249, 0, none⟩ = some (.int .i64 a1_0) ∧ w'.cell? ⟨gb249, 1, none⟩ = some (.string a1_1) ∧ w'.cell? ⟨gb249, 2, none⟩ = some (.slice A1_2 l1_2.length c1_2)) ∧ (Kd.V k25 25 w' w.heap.size (fun k_ => ((P0_ k_ ∨ P1_2_ k_) ∨ w.heap.size ≤ k_) ∧ some k_ ≠ (v256 : Value).ownBlock ∧ some k_ ≠ (s_ : Value).ownBlock ∧ k_ ≠ gb249) (.slice A0 l0.length c0) l0) ∧ (Kd.V k99 99 w' w.heap.size (fun k_ => ((P0_ k_ ∨ P1_2_ k_) ∨ w.heap.size ≤ k_) ∧ some k_ ≠ (v256 : Value).ownBlock ∧ some k_ ≠ (s_ : Value).ownBlock ∧ k_ ≠ gb249) (.slice A1_2 l1_2.length c1_2) l1_2) ∧ (Kd.V k25 25 w' w.heap.size (fun k_ => ((P0_ k_ ∨ P1_2_ k_) ∨ w.heap.size ≤ k_) ∧ some k_ ≠ (v256 : Value).ownBlock ∧ some k_ ≠ (s_ : Value).ownBlock ∧ k_ ≠ gb249) (.slice A0 y250.length c0) y250) ∧ (Kd.N k25 25 w' w.heap.size (fun k_ => ((P0_ k_ ∨ P1_2_ k_) ∨ w.heap.size ≤ k_) ∧ some k_ ≠ (s_ : Value).ownBlock ∧ k_ ≠ gb249) v256 t255) ∧ (Kd.V k25 25 w' w.heap.size (fun k_ => ((P0_ k_ ∨ P1_2_ k_) ∨ w.heap.size ≤ k_) ∧ some k_ ≠ (v256 : Value).ownBlock ∧ some k_ ≠ (s_ : Value).ownBlock ∧ k_ ≠ gb249) v260 t259) ∧ (Kd.N k25 25 w' w.heap.size (fun k_ => ((P0_ k_ ∨ P1_2_ k_) ∨ w.heap.size ≤ k_) ∧ some k_ ≠ (v256 : Value).ownBlock ∧ k_ ≠ gb249) s_ y270) ∧ (w'.heap[gb249]? = some (.cells #[.int .i64 a1_0, .string a1_1, .slice A1_2 l1_2.length c1_2] 25 (0, 0))) ∧ (Below w.heap.size w w')) ?_ ?_
         rotate_left
         ·intro hJ1_6
          refine join_ (σ := Value × Value) 6 #[true, false, true, true, false, true, true, false, false, false, false] (fun s_ => [(31, s_.1), (35, s_.2)]) (fun s_ w' => (w'.cell? ⟨gb249, 0, none⟩ = some (.int .i64 a1_0) ∧ w'.cell? ⟨gb249, 1, none⟩ = some (.string a1_1) ∧ w'.cell? ⟨gb249, 2, none⟩ = some (.slice A1_2 l1_2.length c1_2)) ∧ (Kd.V k25 25 w' w.heap.size (fun k_ => ((P0_ k_ ∨ P1_2_ k_) ∨ w.heap.size ≤ k_) ∧ some k_ ≠ (v256 : Value).ownBlock ∧ some k_ ≠ (s_.1 : Value).ownBlock ∧ some k_ ≠ (s_.2 : Value).ownBlock ∧ k_ ≠ gb249) (.slice A0 l0.length c0) l0) ∧ (Kd.V k99 99 w' w.heap.size (fun k_ => ((P0_ k_ ∨ P1_2_ k_) ∨ w.heap.size ≤ k_) ∧ some k_ ≠ (v256 : Value).ownBlock ∧ some k_ ≠ (s_.1 : Value).ownBlock ∧ some k_ ≠ (s_.2 : Value).ownBlock ∧ k_ ≠ gb249) (.slice A1_2 l1_2.length c1_2) l1_2) ∧ (Kd.V k25 25 w' w.heap.size (fun k_ => ((P0_ k_ ∨ P1_2_ k_) ∨ w.heap.size ≤ k_) ∧ some k_ ≠ (v256 : Value).ownBlock ∧ some k_ ≠ (s_.1 : Value).ownBlock ∧ some k_ ≠ (s_.2 : Value).ownBlock ∧ k_ ≠ gb249) (.slice A0 y250.length c0) y250) ∧ (Kd.N k25 25 w' w.heap.size (fun k_ => ((P0_ k_ ∨ P1_2_ k_) ∨ w.heap.size ≤ k_) ∧ some k_ ≠ (s_.1 : Value).ownBlock ∧ some k_ ≠ (s_.2 : Value).ownBlock ∧ k_ ≠ gb249) v256 t255) ∧ (Kd.V k25 25 w' w.heap.size (fun k_ => ((P0_ k_ ∨ P1_2_ k_) ∨ w.heap.size ≤ k_) ∧ some k_ ≠ (v256 : Value).ownBlock ∧ some k_ ≠ (s_.1 : Value).ownBlock ∧ some k_ ≠ (s_.2 : Value).ownBlock ∧ k_ ≠ gb249) v260 t259) ∧ (Kd.N k25 25 w' w.heap.size (fun k_ => ((P0_ k_ ∨ P1_2_ k_) ∨ w.heap.size ≤ k_) ∧ some k_ ≠ (v256 : Value).ownBlock ∧ some k_ ≠ (s_.2 : Value).ownBlock ∧ k_ ≠ gb249) s_.1 y264) ∧ (Kd.N k25 25 w' w.heap.size (fun k_ => ((P0_ k_ ∨ P1_2_ k_) ∨ w.heap.size ≤ k_) ∧ some k_ ≠ (v256 : Value).ownBlock ∧ some k_ ≠ (s_.1 : Value).ownBlock ∧ k_ ≠ gb249) s_.2 y270) ∧ (w'.heap[gb249]? = some (.cells #[.int .i64 a1_0, .string a1_1, .slice A1_2 l1_2.length c1_2] 25 (0, 0))) ∧ (Below w.heap.size w w')) ?_ ?_
          rotate_left
          ·intro hJ2_6
           refine join_ (σ := Unit) 7 #[true, true, false, true, false, true, false, false, false, false, false] (fun s_ => [(30, .int .i64 t263)]) (fun s_ w' => (w'.cell? ⟨gb249, 0, none⟩ = some (.int .i64 a1_0) ∧ w'.cell? ⟨gb249, 1, none⟩ = some (.string a1_1) ∧ w'.cell? ⟨gb249, 2, none⟩ = some (.slice A1_2 l1_2.length c1_2)) ∧ (Kd.V k25 25 w' w.heap.size (fun k_ => ((P0_ k_ ∨ P1_2_ k_) ∨ w.heap.size ≤ k_) ∧ some k_ ≠ (v256 : Value).ownBlock ∧ k_ ≠ gb249) (.slice A0 l0.length c0) l0) ∧ (Kd.V k99 99 w' w.heap.size (fun k_ => ((P0_ k_ ∨ P1_2_ k_) ∨ w.heap.size ≤ k_) ∧ some k_ ≠ (v256 : Value).ownBlock ∧ k_ ≠ gb249) (.slice A1_2 l1_2.length c1_2) l1_2) ∧ (Kd.V k25 25 w' w.heap.size (fun k_ => ((P0_ k_ ∨ P1_2_ k_) ∨ w.heap.size ≤ k_) ∧ some k_ ≠ (v256 : Value).ownBlock ∧ k_ ≠ gb249) (.slice A0 y250.length c0) y250) ∧ (Kd.N k25 25 w' w.heap.size (fun k_ => ((P0_ k_ ∨ P1_2_ k_) ∨ w.heap.size ≤ k_) ∧ k_ ≠ gb249) v256 t255) ∧ (Kd.V k25 25 w' w.heap.size (fun k_ => ((P0_ k_ ∨ P1_2_ k_) ∨ w.heap.size ≤ k_) ∧ some k_ ≠ (v256 : Value).ownBlock ∧ k_ ≠ gb249) v260 t259) ∧ (w'.heap[gb249]? = some (.cells #[.int .i64 a1_0, .string a1_1, .slice A1_2 l1_2.length c1_2] 25 (0, 0))) ∧ (Below w.heap.size w w')) ?_ ?_
           rotate_left
           ·intro hJ1
            refine join_ (σ := Value) 7 #[true, false, true, true, false, true, false, false, false, false, false] (fun s_ => [(31, s_)]) (fun s_ w' => (w'.cell? ⟨gb249, 0, none⟩ = some (.int .i64 a1_0) ∧ w'.cell? ⟨gb249, 1, none⟩ = some (.string a1_1) ∧ w'.cell? ⟨gb249, 2, none⟩ = some (.slice A1_2 l1_2.length c1_2)) ∧ (Kd.V k25 25 w' w.heap.size (fun k_ => ((P0_ k_ ∨ P1_2_ k_) ∨ w.heap.size ≤ k_) ∧ some k_ ≠ (v256 : Value).ownBlock ∧ some k_ ≠ (s_ : Value).ownBlock ∧ k_ ≠ gb249) (.slice A0 l0.length c0) l0) ∧ (Kd.V k99 99 w' w.heap.size (fun k_ => ((P0_ k_ ∨ P1_2_ k_) ∨ w.heap.size ≤ k_) ∧ some k_ ≠ (v256 : Value).ownBlock ∧ some k_ ≠ (s_ : Value).ownBlock ∧ k_ ≠ gb249) (.slice A1_2 l1_2.length c1_2) l1_2) ∧ (Kd.V k25 25 w' w.heap.size (fun k_ => ((P0_ k_ ∨ P1_2_ k_) ∨ w.heap.size ≤ k_) ∧ some k_ ≠ (v256 : Value).ownBlock ∧ some k_ ≠ (s_ : Value).ownBlock ∧ k_ ≠ gb249) (.slice A0 y250.length c0) y250) ∧ (Kd.N k25 25 w' w.heap.size (fun k_ => ((P0_ k_ ∨ P1_2_ k_) ∨ w.heap.size ≤ k_) ∧ some k_ ≠ (s_ : Value).ownBlock ∧ k_ ≠ gb249) v256 t255) ∧ (Kd.V k25 25 w' w.heap.size (fun k_ => ((P0_ k_ ∨ P1_2_ k_) ∨ w.heap.size ≤ k_) ∧ some k_ ≠ (v256 : Value).ownBlock ∧ some k_ ≠ (s_ : Value).ownBlock ∧ k_ ≠ gb249) v260 t259) ∧ (Kd.N k25 25 w' w.heap.size (fun k_ => ((P0_ k_ ∨ P1_2_ k_) ∨ w.heap.size ≤ k_) ∧ some k_ ≠ (v256 : Value).ownBlock ∧ k_ ≠ gb249) s_ y264) ∧ (w'.heap[gb249]? = some (.cells #[.int .i64 a1_0, .string a1_1, .slice A1_2 l1_2.length c1_2] 25 (0, 0))) ∧ (Below w.heap.size w w')) ?_ ?_
            rotate_left
            ·intro hJ2
             refine join_ (σ := Value) 7 #[true, false, false, true, false, true, true, false, false, false, false] (fun s_ => [(35, s_)]) (fun s_ w' => (w'.cell? ⟨gb249, 0, none⟩ = some (.int .i64 a1_0) ∧ w'.cell? ⟨gb249, 1, none⟩ = some (.string a1_1) ∧ w'.cell? ⟨gb249, 2, none⟩ = some (.slice A1_2 l1_2.length c1_2)) ∧ (Kd.V k25 25 w' w.heap.size (fun k_ => ((P0_ k_ ∨ P1_2_ k_) ∨ w.heap.size ≤ k_) ∧ some k_ ≠ (v256 : Value).ownBlock ∧ some k_ ≠ (s_ : Value).ownBlock ∧ k_ ≠ gb249) (.slice A0 l0.length c0) l0) ∧ (Kd.V k99 99 w' w.heap.size (fun k_ => ((P0_ k_ ∨ P1_2_ k_) ∨ w.heap.size ≤ k_) ∧ some k_ ≠ (v256 : Value).ownBlock ∧ some k_ ≠ (s_ : Value).ownBlock ∧ k_ ≠ gb249) (.slice A1_2 l1_2.length c1_2) l1_2) ∧ (Kd.V k25 25 w' w.heap.size (fun k_ => ((P0_ k_ ∨ P1_2_ k_) ∨ w.heap.size ≤ k_) ∧ some k_ ≠ (v256 : Value).ownBlock ∧ some k_ ≠ (s_ : Value).ownBlock ∧ k_ ≠ gb249) (.slice A0 y250.length c0) y250) ∧ (Kd.N k25 25 w' w.heap.size (fun k_ => ((P0_ k_ ∨ P1_2_ k_) ∨ w.heap.size ≤ k_) ∧ some k_ ≠ (s_ : Value).ownBlock ∧ k_ ≠ gb249) v256 t255) ∧ (Kd.V k25 25 w' w.heap.size (fun k_ => ((P0_ k_ ∨ P1_2_ k_) ∨ w.heap.size ≤ k_) ∧ some k_ ≠ (v256 : Value).ownBlock ∧ some k_ ≠ (s_ : Value).ownBlock ∧ k_ ≠ gb249) v260 t259) ∧ (Kd.N k25 25 w' w.heap.size (fun k_ => ((P0_ k_ ∨ P1_2_ k_) ∨ w.heap.size ≤ k_) ∧ some k_ ≠ (v256 : Value).ownBlock ∧ k_ ≠ gb249) s_ y270) ∧ (w'.heap[gb249]? = some (.cells #[.int .i64 a1_0, .string a1_1, .slice A1_2 l1_2.length c1_2] 25 (0, 0))) ∧ (Below w.heap.size w w')) ?_ ?_
             rotate_left
             ·intro hJ6
              refine three_ (i := 1) (j := 2) (k := 6) (Ni := some 30) (Nj := some 31) (Nk := some 35) #[true, true, false, true, false, true, false, false, false, false, false] #[true, false, true, true, false, true, false, false, false, false, false] #[true, false, false, true, false, true, true, false, false, false, false] rfl rfl rfl rfl rfl rfl (three_of HT_.out (by kernel_rfl)) (by decide) (by decide) (by decide) (fun K hK => ?_) (fun K hK => ?_) (fun K hK => ?_)
              ·skip
               refine goes_ Try.func12 (by kernel_rfl) rfl #[.slice A0 y250.length c0] (by rfl) rfl rfl (by (try simp only [List.map_toArray, List.map_cons, List.map_nil]); first | done | rfl | (simp only [List.length_drop, List.length_take]; rfl)) ?_
               with_reducible refine (clerestoryref1_ActiveCheck.calls k _ _ y250 t263 _ ?side1 ?side2 A8.out).mono ?_
               (case side1 => repeat (first | exact (Kd.V_reads' HO254.out).2.2 | (with_reducible refine cA ?_ _) | (with_reducible refine cN ?_ _) | (with_reducible refine cD ?_)))
               (case side2 => exact (Kd.V_reads' HO254.out).2.1)
               rintro e w' ⟨rfl, ⟨nd, rfl⟩⟩
               refine ⟨_, rfl, ?_⟩
               refine hK.out _ _ ⟨(blk_cell BK249.out 0).trans rfl, (blk_cell BK249.out 1).trans rfl, (blk_cell BK249.out 2).trans rfl⟩ (fun hHeld => ?_)
               clear hK K
               refine norm_ (a' := ?_) ?_ ?_
               rotate_left
               ·show Act.put _ (some 30) _ = _
                simp only [Act.put, s1, s2, s3, i64_w, i32_w]
                rfl
               exact norm_ (by first | (simp only [putAll, Act.put, List.setIfInBounds_toArray, List.set_cons_zero, List.set_cons_succ]; done) | (simp only [putAll, Act.put, List.setIfInBounds_toArray, List.set_cons_zero, List.set_cons_succ]; rfl)) (hJ1 () _ ⟨hHeld, (by (with_reducible repeat (first | apply vA | apply vN | apply vD)); exact Kd.V_mono HO0.out (fun _ hk => ⟨hk.1.1, ⟨hk.2, hk.1.2⟩⟩)), (by (with_reducible repeat (first | apply vA | apply vN | apply vD)); exact Kd.V_mono HO1_2.out (fun _ hk => ⟨hk.1.1, ⟨hk.2, hk.1.2⟩⟩)), (by (with_reducible repeat (first | apply vA | apply vN | apply vD)); exact Kd.V_mono HO254.out (fun _ hk => ⟨hk.1.1, ⟨hk.2, hk.1.2⟩⟩)), (by (with_reducible repeat (first | apply nA | apply nN | apply nD)); exact HO257.out), (by (with_reducible repeat (first | apply vA | apply vN | apply vD)); exact HO261.out), (by (with_reducible repeat (first | refine kN ?_ _ | refine kD ?_ | refine kA ?_ _)); exact BK249.out), (by repeat (first | (with_reducible first | exact HB.out | apply bA | apply bN | apply bD | refine bS ?_ GE249.out) | exact HB.out))⟩)
              ·skip
               refine Kd.N_lit_step k25 _ 25 ?hg (N' := 31) ?hd (xs := ([] : List (S25))) (inner := []) (ok := (fun k_ => ((P0_ k_ ∨ P1_2_ k_) ∨ w.heap.size ≤ k_) ∧ some k_ ≠ (v256 : Value).ownBlock ∧ k_ ≠ gb249)) (okp := (fun k_ => ((P0_ k_ ∨ P1_2_ k_) ∨ w.heap.size ≤ k_) ∧ some k_ ≠ (v256 : Value).ownBlock ∧ k_ ≠ gb249)) ?hr ?hp (fun _ hk => hk) ((show ∀ k_, w18.heap.size ≤ k_ → (fun k_ => ((P0_ k_ ∨ P1_2_ k_) ∨ w.heap.size ≤ k_) ∧ some k_ ≠ (v256 : Value).ownBlock ∧ k_ ≠ gb249) k_ from fun k_ hk => ⟨(.inr (Nat.le_trans (below_size (by repeat (first | (with_reducible first | exact HB.out | apply bA | apply bN | apply bD | refine bS ?_ GE249.out) | exact HB.out))) hk)), Kd.fresh' (Kd.N_lt (by (with_reducible repeat (first | apply nA | apply nN | apply nD)); exact HO257.out)) k_ hk, Kd.freshB (g := gb249) (o := .cells #[.int .i64 a1_0, .string a1_1, .slice A1_2 l1_2.length c1_2] 25 (0, 0)) (by (with_reducible repeat (first | refine kN ?_ _ | refine kD ?_ | refine kA ?_ _)); exact BK249.out) k_ hk⟩) _ (by first | exact Nat.le_refl _ | simp)) (Below.refl _ _) (Nat.le_refl _) (by simp) ?_; (case hd => rfl); (case hg => rfl); (case hr => first | (go_simp; done) | (go_simp; rfl)); (case hp => exact (Reps.none _ _))
               intro v265 w19 ho20 hb hg_ hnew_
               clear hg_ hnew_
               (first | rw [← Ny264.out] at ho20 | (simp only [Int.reduceToNat] at ho20; rw [← Ny264.out] at ho20))
               have n0_ := aS (Kd.V_elder' (by (with_reducible repeat (first | apply vA | apply vN | apply vD)); exact HO0.out) (Kd.N_base ho20) hb)
               have n1_ := aS (Kd.V_elder' (by (with_reducible repeat (first | apply vA | apply vN | apply vD)); exact HO1_2.out) (Kd.N_base ho20) hb)
               have n2_ := aS (Kd.V_elder' (by (with_reducible repeat (first | apply vA | apply vN | apply vD)); exact HO254.out) (Kd.N_base ho20) hb)
               have n3_ := aS (Kd.N_elder' (by (with_reducible repeat (first | apply nA | apply nN | apply nD)); exact HO257.out) (Kd.N_base ho20) hb)
               have n4_ := aS (Kd.V_elder' (by (with_reducible repeat (first | apply vA | apply vN | apply vD)); exact HO261.out) (Kd.N_base ho20) hb)
               have n5_ := aS (Kd.N_lower ho20 (below_size (by repeat (first | (with_reducible first | exact HB.out | apply bA | apply bN | apply bD | refine bS ?_ GE249.out) | exact HB.out))))
               have n6_ := aS (blk_below (g := gb249) (o := .cells #[.int .i64 a1_0, .string a1_1, .slice A1_2 l1_2.length c1_2] 25 (0, 0)) (by (with_reducible repeat (first | refine kN ?_ _ | refine kD ?_ | refine kA ?_ _)); exact BK249.out) hb)
               have n7_ := aS (below_step (by repeat (first | (with_reducible first | exact HB.out | apply bA | apply bN | apply bD | refine bS ?_ GE249.out) | exact HB.out)) hb)
               clear HO0
               clear HO1_2
               clear HO254
               clear HO257
               clear HO261
               clear BK249
               clear HB
               have HO0 := n0_
               have HO1_2 := n1_
               have HO254 := n2_
               have HO257 := n3_
               have HO261 := n4_
               have HO266 := n5_
               have BK249 := n6_
               have HB := n7_
               clear n0_ n1_ n2_ n3_ n4_ n5_ n6_ n7_
               clear hb ho20
               refine hK.out _ _ ⟨(blk_cell BK249.out 0).trans rfl, (blk_cell BK249.out 1).trans rfl, (blk_cell BK249.out 2).trans rfl⟩ (fun hHeld => ?_)
               clear hK K
               refine norm_ (a' := ?_) ?_ ?_
               rotate_left
               ·show Act.put _ (some 31) _ = _
                simp only [Act.put, s1, s2, s3, i64_w, i32_w]
                rfl
               exact norm_ (by first | (simp only [putAll, Act.put, List.setIfInBounds_toArray, List.set_cons_zero, List.set_cons_succ]; done) | (simp only [putAll, Act.put, List.setIfInBounds_toArray, List.set_cons_zero, List.set_cons_succ]; rfl)) (hJ2 (v265) _ ⟨hHeld, (by (with_reducible repeat (first | apply vA | apply vN | apply vD)); exact Kd.V_mono HO0.out (fun _ hk => ⟨hk.1.1.1, ⟨hk.1.2, ⟨hk.2, hk.1.1.2⟩⟩⟩)), (by (with_reducible repeat (first | apply vA | apply vN | apply vD)); exact Kd.V_mono HO1_2.out (fun _ hk => ⟨hk.1.1.1, ⟨hk.1.2, ⟨hk.2, hk.1.1.2⟩⟩⟩)), (by (with_reducible repeat (first | apply vA | apply vN | apply vD)); exact Kd.V_mono HO254.out (fun _ hk => ⟨hk.1.1.1, ⟨hk.1.2, ⟨hk.2, hk.1.1.2⟩⟩⟩)), (by (with_reducible repeat (first | apply nA | apply nN | apply nD)); exact Kd.N_mono HO257.out (fun _ hk => ⟨hk.1.1, ⟨hk.2, hk.1.2⟩⟩)), (by (with_reducible repeat (first | apply vA | apply vN | apply vD)); exact Kd.V_mono HO261.out (fun _ hk => ⟨hk.1.1, ⟨hk.1.2.1, ⟨hk.2, hk.1.2.2⟩⟩⟩)), (by (with_reducible repeat (first | apply nA | apply nN | apply nD)); exact HO266.out), (by (with_reducible repeat (first | refine kN ?_ _ | refine kD ?_ | refine kA ?_ _)); exact BK249.out), (by repeat (first | (with_reducible first | exact HB.out | apply bA | apply bN | apply bD | refine bS ?_ GE249.out) | exact HB.out))⟩)
              ·skip
               refine Kd.N_lit_step k25 _ 25 ?hg (N' := 35) ?hd (xs := ([(⟨a1_0, a1_1, l1_2⟩ : S25)] : List (S25))) (inner := [.int .i64 a1_0, .string a1_1, .slice A1_2 l1_2.length c1_2]) (ok := (fun k_ => ((P0_ k_ ∨ P1_2_ k_) ∨ w.heap.size ≤ k_) ∧ some k_ ≠ (v256 : Value).ownBlock ∧ k_ ≠ gb249)) (okp := (fun k_ => ((P0_ k_ ∨ P1_2_ k_) ∨ w.heap.size ≤ k_) ∧ some k_ ≠ (v256 : Value).ownBlock ∧ k_ ≠ gb249)) ?hr ?hp (fun _ hk => hk) ((show ∀ k_, w18.heap.size ≤ k_ → (fun k_ => ((P0_ k_ ∨ P1_2_ k_) ∨ w.heap.size ≤ k_) ∧ some k_ ≠ (v256 : Value).ownBlock ∧ k_ ≠ gb249) k_ from fun k_ hk => ⟨(.inr (Nat.le_trans (below_size (by repeat (first | (with_reducible first | exact HB.out | apply bA | apply bN | apply bD | refine bS ?_ GE249.out) | exact HB.out))) hk)), Kd.fresh' (Kd.N_lt (by (with_reducible repeat (first | apply nA | apply nN | apply nD)); exact HO257.out)) k_ hk, Kd.freshB (g := gb249) (o := .cells #[.int .i64 a1_0, .string a1_1, .slice A1_2 l1_2.length c1_2] 25 (0, 0)) (by (with_reducible repeat (first | refine kN ?_ _ | refine kD ?_ | refine kA ?_ _)); exact BK249.out) k_ hk⟩) _ (by first | exact Nat.le_refl _ | simp)) (Below.refl _ _) (Nat.le_refl _) (by simp) ?_; (case hd => rfl); (case hg => rfl); (case hr => first | (go_simp; done) | (go_simp; rfl)); (case hp => exact (Reps.c3 (show Kd.FK k25 _ _ (⟨a1_0, a1_1, l1_2⟩ : S25) [.int .i64 a1_0, .string a1_1, .slice A1_2 l1_2.length c1_2] from (k25_mkFV _ _ (⟨a1_0, a1_1, l1_2⟩ : S25) (Kd.V_mono (ok' := (fun k_ => ((P0_ k_ ∨ P1_2_ k_) ∨ w.heap.size ≤ k_) ∧ some k_ ≠ (v256 : Value).ownBlock ∧ k_ ≠ gb249)) (HO1_2.out) (fun k_ hk => ⟨hk.1.1, ⟨hk.2, hk.1.2⟩⟩)))) (Reps.none _ _)))
               intro v271 w19 ho20 hb hg_ hnew_
               clear hg_ hnew_
               (first | rw [← Ny270.out] at ho20 | (simp only [Int.reduceToNat] at ho20; rw [← Ny270.out] at ho20))
               have n0_ := aS (Kd.V_elder' (by (with_reducible repeat (first | apply vA | apply vN | apply vD)); exact HO0.out) (Kd.N_base ho20) hb)
               have n1_ := aS (Kd.V_elder' (by (with_reducible repeat (first | apply vA | apply vN | apply vD)); exact HO1_2.out) (Kd.N_base ho20) hb)
               have n2_ := aS (Kd.V_elder' (by (with_reducible repeat (first | apply vA | apply vN | apply vD)); exact HO254.out) (Kd.N_base ho20) hb)
               have n3_ := aS (Kd.N_elder' (by (with_reducible repeat (first | apply nA | apply nN | apply nD)); exact HO257.out) (Kd.N_base ho20) hb)
               have n4_ := aS (Kd.V_elder' (by (with_reducible repeat (first | apply vA | apply vN | apply vD)); exact HO261.out) (Kd.N_base ho20) hb)
               have n5_ := aS (Kd.N_lower ho20 (below_size (by repeat (first | (with_reducible first | exact HB.out | apply bA | apply bN | apply bD | refine bS ?_ GE249.out) | exact HB.out))))
               have n6_ := aS (blk_below (g := gb249) (o := .cells #[.int .i64 a1_0, .string a1_1, .slice A1_2 l1_2.length c1_2] 25 (0, 0)) (by (with_reducible repeat (first | refine kN ?_ _ | refine kD ?_ | refine kA ?_ _)); exact BK249.out) hb)
               have n7_ := aS (below_step (by repeat (first | (with_reducible first | exact HB.out | apply bA | apply bN | apply bD | refine bS ?_ GE249.out) | exact HB.out)) hb)
               clear HO0
               clear HO1_2
               clear HO254
               clear HO257
               clear HO261
               clear BK249
               clear HB
               have HO0 := n0_
               have HO1_2 := n1_
               have HO254 := n2_
               have HO257 := n3_
               have HO261 := n4_
               have HO272 := n5_
               have BK249 := n6_
               have HB := n7_
               clear n0_ n1_ n2_ n3_ n4_ n5_ n6_ n7_
               clear hb ho20
               refine hK.out _ _ ⟨(blk_cell BK249.out 0).trans rfl, (blk_cell BK249.out 1).trans rfl, (blk_cell BK249.out 2).trans rfl⟩ (fun hHeld => ?_)
               clear hK K
               refine norm_ (a' := ?_) ?_ ?_
               rotate_left
               ·show Act.put _ (some 35) _ = _
                simp only [Act.put, s1, s2, s3, i64_w, i32_w]
                rfl
               exact norm_ (by first | (simp only [putAll, Act.put, List.setIfInBounds_toArray, List.set_cons_zero, List.set_cons_succ]; done) | (simp only [putAll, Act.put, List.setIfInBounds_toArray, List.set_cons_zero, List.set_cons_succ]; rfl)) (hJ6 (v271) _ ⟨hHeld, (by (with_reducible repeat (first | apply vA | apply vN | apply vD)); exact Kd.V_mono HO0.out (fun _ hk => ⟨hk.1.1.1, ⟨hk.1.2, ⟨hk.2, hk.1.1.2⟩⟩⟩)), (by (with_reducible repeat (first | apply vA | apply vN | apply vD)); exact Kd.V_mono HO1_2.out (fun _ hk => ⟨hk.1.1.1, ⟨hk.1.2, ⟨hk.2, hk.1.1.2⟩⟩⟩)), (by (with_reducible repeat (first | apply vA | apply vN | apply vD)); exact Kd.V_mono HO254.out (fun _ hk => ⟨hk.1.1.1, ⟨hk.1.2, ⟨hk.2, hk.1.1.2⟩⟩⟩)), (by (with_reducible repeat (first | apply nA | apply nN | apply nD)); exact Kd.N_mono HO257.out (fun _ hk => ⟨hk.1.1, ⟨hk.2, hk.1.2⟩⟩)), (by (with_reducible repeat (first | apply vA | apply vN | apply vD)); exact Kd.V_mono HO261.out (fun _ hk => ⟨hk.1.1, ⟨hk.1.2.1, ⟨hk.2, hk.1.2.2⟩⟩⟩)), (by (with_reducible repeat (first | apply nA | apply nN | apply nD)); exact HO272.out), (by (with_reducible repeat (first | refine kN ?_ _ | refine kD ?_ | refine kA ?_ _)); exact BK249.out), (by repeat (first | (with_reducible first | exact HB.out | apply bA | apply bN | apply bD | refine bS ?_ GE249.out) | exact HB.out))⟩)
             ·skip
              rintro v271 w21 ⟨hS_, h0_, h1_, h2_, h3_, h4_, h5_, h6_, h7_⟩
              have n0_ : Aside0 (Kd.V k25 25 w21 w.heap.size (fun k_ => ((P0_ k_ ∨ P1_2_ k_) ∨ w.heap.size ≤ k_) ∧ some k_ ≠ (v256 : Value).ownBlock ∧ some k_ ≠ (v271 : Value).ownBlock ∧ k_ ≠ gb249) (.slice A0 l0.length c0) l0) := ⟨h0_⟩
              have n1_ : Aside0 (Kd.V k99 99 w21 w.heap.size (fun k_ => ((P0_ k_ ∨ P1_2_ k_) ∨ w.heap.size ≤ k_) ∧ some k_ ≠ (v256 : Value).ownBlock ∧ some k_ ≠ (v271 : Value).ownBlock ∧ k_ ≠ gb249) (.slice A1_2 l1_2.length c1_2) l1_2) := ⟨h1_⟩
              have n2_ : Aside0 (Kd.V k25 25 w21 w.heap.size (fun k_ => ((P0_ k_ ∨ P1_2_ k_) ∨ w.heap.size ≤ k_) ∧ some k_ ≠ (v256 : Value).ownBlock ∧ some k_ ≠ (v271 : Value).ownBlock ∧ k_ ≠ gb249) (.slice A0 y250.length c0) y250) := ⟨h2_⟩
              have n3_ : Aside0 (Kd.N k25 25 w21 w.heap.size (fun k_ => ((P0_ k_ ∨ P1_2_ k_) ∨ w.heap.size ≤ k_) ∧ some k_ ≠ (v271 : Value).ownBlock ∧ k_ ≠ gb249) v256 t255) := ⟨h3_⟩
              have n4_ : Aside0 (Kd.V k25 25 w21 w.heap.size (fun k_ => ((P0_ k_ ∨ P1_2_ k_) ∨ w.heap.size ≤ k_) ∧ some k_ ≠ (v256 : Value).ownBlock ∧ some k_ ≠ (v271 : Value).ownBlock ∧ k_ ≠ gb249) v260 t259) := ⟨h4_⟩
              have n5_ : Aside0 (Kd.N k25 25 w21 w.heap.size (fun k_ => ((P0_ k_ ∨ P1_2_ k_) ∨ w.heap.size ≤ k_) ∧ some k_ ≠ (v256 : Value).ownBlock ∧ k_ ≠ gb249) v271 y270) := ⟨h5_⟩
              have n6_ : Aside0 (w21.heap[gb249]? = some (.cells #[.int .i64 a1_0, .string a1_1, .slice A1_2 l1_2.length c1_2] 25 (0, 0))) := ⟨h6_⟩
              have n7_ : Aside0 (Below w.heap.size w w21) := ⟨h7_⟩
              clear HO0
              clear HO1_2
              clear HO254
              clear HO257
              clear HO261
              clear BK249
              clear HB
              clear h0_ h1_ h2_ h3_ h4_ h5_ h6_ h7_
              have HO0 := n0_
              have HO1_2 := n1_
              have HO254 := n2_
              have HO257 := n3_
              have HO261 := n4_
              have HO272 := n5_
              have BK249 := n6_
              have HB := n7_
              clear n0_ n1_ n2_ n3_ n4_ n5_ n6_ n7_
              have hHeld : w21.cell? ⟨gb249, 0, none⟩ = some (.int .i64 a1_0) ∧ w21.cell? ⟨gb249, 1, none⟩ = some (.string a1_1) ∧ w21.cell? ⟨gb249, 2, none⟩ = some (.slice A1_2 l1_2.length c1_2) := hS_
              refine norm_ (a' := ?_) ?_ ?_
              rotate_left
              ·simp only [putAll, Act.put, List.setIfInBounds_toArray, List.set_cons_zero, List.set_cons_succ]
               rfl
              refine two_ (i := 1) (j := 2) (Ni := some 30) (Nj := some 31) #[true, true, false, true, false, true, true, false, false, false, false] #[true, false, true, true, false, true, true, false, false, false, false] rfl rfl rfl rfl (two_of HT_.out (by kernel_rfl)) (by decide) (by decide) (fun K hK => ?_) (fun K hK => ?_)
              ·skip
               refine goes_ Try.func12 (by kernel_rfl) rfl #[.slice A0 y250.length c0] (by rfl) rfl rfl (by (try simp only [List.map_toArray, List.map_cons, List.map_nil]); first | done | rfl | (simp only [List.length_drop, List.length_take]; rfl)) ?_
               with_reducible refine (clerestoryref1_ActiveCheck.calls k _ _ y250 t263 _ ?side1 ?side2 A8.out).mono ?_
               (case side1 => repeat (first | exact (Kd.V_reads' HO254.out).2.2 | (with_reducible refine cA ?_ _) | (with_reducible refine cN ?_ _) | (with_reducible refine cD ?_)))
               (case side2 => exact (Kd.V_reads' HO254.out).2.1)
               rintro e w' ⟨rfl, ⟨nd, rfl⟩⟩
               refine ⟨_, rfl, ?_⟩
               refine hK.out _ _ ⟨(blk_cell BK249.out 0).trans rfl, (blk_cell BK249.out 1).trans rfl, (blk_cell BK249.out 2).trans rfl⟩ (fun hHeld => ?_)
               clear hK K
               refine norm_ (a' := ?_) ?_ ?_
               rotate_left
               ·show Act.put _ (some 30) _ = _
                simp only [Act.put, s1, s2, s3, i64_w, i32_w]
                rfl
               exact norm_ (by first | (simp only [putAll, Act.put, List.setIfInBounds_toArray, List.set_cons_zero, List.set_cons_succ]; done) | (simp only [putAll, Act.put, List.setIfInBounds_toArray, List.set_cons_zero, List.set_cons_succ]; rfl)) (hJ1_6 (v271) _ ⟨hHeld, (by (with_reducible repeat (first | apply vA | apply vN | apply vD)); exact HO0.out), (by (with_reducible repeat (first | apply vA | apply vN | apply vD)); exact HO1_2.out), (by (with_reducible repeat (first | apply vA | apply vN | apply vD)); exact HO254.out), (by (with_reducible repeat (first | apply nA | apply nN | apply nD)); exact HO257.out), (by (with_reducible repeat (first | apply vA | apply vN | apply vD)); exact HO261.out), (by (with_reducible repeat (first | apply nA | apply nN | apply nD)); exact HO272.out), (by (with_reducible repeat (first | refine kN ?_ _ | refine kD ?_ | refine kA ?_ _)); exact BK249.out), (by repeat (first | (with_reducible first | exact HB.out | apply bA | apply bN | apply bD | refine bS ?_ GE249.out) | exact HB.out))⟩)
              ·skip
               refine Kd.N_lit_step k25 _ 25 ?hg (N' := 31) ?hd (xs := ([] : List (S25))) (inner := []) (ok := (fun k_ => ((P0_ k_ ∨ P1_2_ k_) ∨ w.heap.size ≤ k_) ∧ some k_ ≠ (v256 : Value).ownBlock ∧ some k_ ≠ (v271 : Value).ownBlock ∧ k_ ≠ gb249)) (okp := (fun k_ => ((P0_ k_ ∨ P1_2_ k_) ∨ w.heap.size ≤ k_) ∧ some k_ ≠ (v256 : Value).ownBlock ∧ some k_ ≠ (v271 : Value).ownBlock ∧ k_ ≠ gb249)) ?hr ?hp (fun _ hk => hk) ((show ∀ k_, w21.heap.size ≤ k_ → (fun k_ => ((P0_ k_ ∨ P1_2_ k_) ∨ w.heap.size ≤ k_) ∧ some k_ ≠ (v256 : Value).ownBlock ∧ some k_ ≠ (v271 : Value).ownBlock ∧ k_ ≠ gb249) k_ from fun k_ hk => ⟨(.inr (Nat.le_trans (below_size (by repeat (first | (with_reducible first | exact HB.out | apply bA | apply bN | apply bD | refine bS ?_ GE249.out) | exact HB.out))) hk)), Kd.fresh' (Kd.N_lt (by (with_reducible repeat (first | apply nA | apply nN | apply nD)); exact HO257.out)) k_ hk, Kd.fresh' (Kd.N_lt (by (with_reducible repeat (first | apply nA | apply nN | apply nD)); exact HO272.out)) k_ hk, Kd.freshB (g := gb249) (o := .cells #[.int .i64 a1_0, .string a1_1, .slice A1_2 l1_2.length c1_2] 25 (0, 0)) (by (with_reducible repeat (first | refine kN ?_ _ | refine kD ?_ | refine kA ?_ _)); exact BK249.out) k_ hk⟩) _ (by first | exact Nat.le_refl _ | simp)) (Below.refl _ _) (Nat.le_refl _) (by simp) ?_; (case hd => rfl); (case hg => rfl); (case hr => first | (go_simp; done) | (go_simp; rfl)); (case hp => exact (Reps.none _ _))
               intro v265 w22 ho23 hb hg_ hnew_
               clear hg_ hnew_
               (first | rw [← Ny264.out] at ho23 | (simp only [Int.reduceToNat] at ho23; rw [← Ny264.out] at ho23))
               have n0_ := aS (Kd.V_elder' (by (with_reducible repeat (first | apply vA | apply vN | apply vD)); exact HO0.out) (Kd.N_base ho23) hb)
               have n1_ := aS (Kd.V_elder' (by (with_reducible repeat (first | apply vA | apply vN | apply vD)); exact HO1_2.out) (Kd.N_base ho23) hb)
               have n2_ := aS (Kd.V_elder' (by (with_reducible repeat (first | apply vA | apply vN | apply vD)); exact HO254.out) (Kd.N_base ho23) hb)
               have n3_ := aS (Kd.N_elder' (by (with_reducible repeat (first | apply nA | apply nN | apply nD)); exact HO257.out) (Kd.N_base ho23) hb)
               have n4_ := aS (Kd.V_elder' (by (with_reducible repeat (first | apply vA | apply vN | apply vD)); exact HO261.out) (Kd.N_base ho23) hb)
               have n5_ := aS (Kd.N_elder' (by (with_reducible repeat (first | apply nA | apply nN | apply nD)); exact HO272.out) (Kd.N_base ho23) hb)
               have n6_ := aS (Kd.N_lower ho23 (below_size (by repeat (first | (with_reducible first | exact HB.out | apply bA | apply bN | apply bD | refine bS ?_ GE249.out) | exact HB.out))))
               have n7_ := aS (blk_below (g := gb249) (o := .cells #[.int .i64 a1_0, .string a1_1, .slice A1_2 l1_2.length c1_2] 25 (0, 0)) (by (with_reducible repeat (first | refine kN ?_ _ | refine kD ?_ | refine kA ?_ _)); exact BK249.out) hb)
               have n8_ := aS (below_step (by repeat (first | (with_reducible first | exact HB.out | apply bA | apply bN | apply bD | refine bS ?_ GE249.out) | exact HB.out)) hb)
               clear HO0
               clear HO1_2
               clear HO254
               clear HO257
               clear HO261
               clear HO272
               clear BK249
               clear HB
               have HO0 := n0_
               have HO1_2 := n1_
               have HO254 := n2_
               have HO257 := n3_
               have HO261 := n4_
               have HO272 := n5_
               have HO266 := n6_
               have BK249 := n7_
               have HB := n8_
               clear n0_ n1_ n2_ n3_ n4_ n5_ n6_ n7_ n8_
               clear hb ho23
               refine hK.out _ _ ⟨(blk_cell BK249.out 0).trans rfl, (blk_cell BK249.out 1).trans rfl, (blk_cell BK249.out 2).trans rfl⟩ (fun hHeld => ?_)
               clear hK K
               refine norm_ (a' := ?_) ?_ ?_
               rotate_left
               ·show Act.put _ (some 31) _ = _
                simp only [Act.put, s1, s2, s3, i64_w, i32_w]
                rfl
               exact norm_ (by first | (simp only [putAll, Act.put, List.setIfInBounds_toArray, List.set_cons_zero, List.set_cons_succ]; done) | (simp only [putAll, Act.put, List.setIfInBounds_toArray, List.set_cons_zero, List.set_cons_succ]; rfl)) (hJ2_6 (v265, v271) _ ⟨hHeld, (by (with_reducible repeat (first | apply vA | apply vN | apply vD)); exact Kd.V_mono HO0.out (fun _ hk => ⟨hk.1.1, ⟨hk.1.2.1, ⟨hk.2, ⟨hk.1.2.2.1, hk.1.2.2.2⟩⟩⟩⟩)), (by (with_reducible repeat (first | apply vA | apply vN | apply vD)); exact Kd.V_mono HO1_2.out (fun _ hk => ⟨hk.1.1, ⟨hk.1.2.1, ⟨hk.2, ⟨hk.1.2.2.1, hk.1.2.2.2⟩⟩⟩⟩)), (by (with_reducible repeat (first | apply vA | apply vN | apply vD)); exact Kd.V_mono HO254.out (fun _ hk => ⟨hk.1.1, ⟨hk.1.2.1, ⟨hk.2, ⟨hk.1.2.2.1, hk.1.2.2.2⟩⟩⟩⟩)), (by (with_reducible repeat (first | apply nA | apply nN | apply nD)); exact Kd.N_mono HO257.out (fun _ hk => ⟨hk.1.1, ⟨hk.2, ⟨hk.1.2.1, hk.1.2.2⟩⟩⟩)), (by (with_reducible repeat (first | apply vA | apply vN | apply vD)); exact Kd.V_mono HO261.out (fun _ hk => ⟨hk.1.1, ⟨hk.1.2.1, ⟨hk.2, ⟨hk.1.2.2.1, hk.1.2.2.2⟩⟩⟩⟩)), (by (with_reducible repeat (first | apply nA | apply nN | apply nD)); exact HO266.out), (by (with_reducible repeat (first | apply nA | apply nN | apply nD)); exact Kd.N_mono HO272.out (fun _ hk => ⟨hk.1.1, ⟨hk.1.2.1, ⟨hk.2, hk.1.2.2⟩⟩⟩)), (by (with_reducible repeat (first | refine kN ?_ _ | refine kD ?_ | refine kA ?_ _)); exact BK249.out), (by repeat (first | (with_reducible first | exact HB.out | apply bA | apply bN | apply bD | refine bS ?_ GE249.out) | exact HB.out))⟩)
            ·skip
             rintro v265 w21 ⟨hS_, h0_, h1_, h2_, h3_, h4_, h5_, h6_, h7_⟩
             have n0_ : Aside0 (Kd.V k25 25 w21 w.heap.size (fun k_ => ((P0_ k_ ∨ P1_2_ k_) ∨ w.heap.size ≤ k_) ∧ some k_ ≠ (v256 : Value).ownBlock ∧ some k_ ≠ (v265 : Value).ownBlock ∧ k_ ≠ gb249) (.slice A0 l0.length c0) l0) := ⟨h0_⟩
             have n1_ : Aside0 (Kd.V k99 99 w21 w.heap.size (fun k_ => ((P0_ k_ ∨ P1_2_ k_) ∨ w.heap.size ≤ k_) ∧ some k_ ≠ (v256 : Value).ownBlock ∧ some k_ ≠ (v265 : Value).ownBlock ∧ k_ ≠ gb249) (.slice A1_2 l1_2.length c1_2) l1_2) := ⟨h1_⟩
             have n2_ : Aside0 (Kd.V k25 25 w21 w.heap.size (fun k_ => ((P0_ k_ ∨ P1_2_ k_) ∨ w.heap.size ≤ k_) ∧ some k_ ≠ (v256 : Value).ownBlock ∧ some k_ ≠ (v265 : Value).ownBlock ∧ k_ ≠ gb249) (.slice A0 y250.length c0) y250) := ⟨h2_⟩
             have n3_ : Aside0 (Kd.N k25 25 w21 w.heap.size (fun k_ => ((P0_ k_ ∨ P1_2_ k_) ∨ w.heap.size ≤ k_) ∧ some k_ ≠ (v265 : Value).ownBlock ∧ k_ ≠ gb249) v256 t255) := ⟨h3_⟩
             have n4_ : Aside0 (Kd.V k25 25 w21 w.heap.size (fun k_ => ((P0_ k_ ∨ P1_2_ k_) ∨ w.heap.size ≤ k_) ∧ some k_ ≠ (v256 : Value).ownBlock ∧ some k_ ≠ (v265 : Value).ownBlock ∧ k_ ≠ gb249) v260 t259) := ⟨h4_⟩
             have n5_ : Aside0 (Kd.N k25 25 w21 w.heap.size (fun k_ => ((P0_ k_ ∨ P1_2_ k_) ∨ w.heap.size ≤ k_) ∧ some k_ ≠ (v256 : Value).ownBlock ∧ k_ ≠ gb249) v265 y264) := ⟨h5_⟩
             have n6_ : Aside0 (w21.heap[gb249]? = some (.cells #[.int .i64 a1_0, .string a1_1, .slice A1_2 l1_2.length c1_2] 25 (0, 0))) := ⟨h6_⟩
             have n7_ : Aside0 (Below w.heap.size w w21) := ⟨h7_⟩
             clear HO0
             clear HO1_2
             clear HO254
             clear HO257
             clear HO261
             clear BK249
             clear HB
             clear h0_ h1_ h2_ h3_ h4_ h5_ h6_ h7_
             have HO0 := n0_
             have HO1_2 := n1_
             have HO254 := n2_
             have HO257 := n3_
             have HO261 := n4_
             have HO266 := n5_
             have BK249 := n6_
             have HB := n7_
             clear n0_ n1_ n2_ n3_ n4_ n5_ n6_ n7_
             have hHeld : w21.cell? ⟨gb249, 0, none⟩ = some (.int .i64 a1_0) ∧ w21.cell? ⟨gb249, 1, none⟩ = some (.string a1_1) ∧ w21.cell? ⟨gb249, 2, none⟩ = some (.slice A1_2 l1_2.length c1_2) := hS_
             refine norm_ (a' := ?_) ?_ ?_
             rotate_left
             ·simp only [putAll, Act.put, List.setIfInBounds_toArray, List.set_cons_zero, List.set_cons_succ]
              rfl
             refine two_ (i := 1) (j := 6) (Ni := some 30) (Nj := some 35) #[true, true, true, true, false, true, false, false, false, false, false] #[true, false, true, true, false, true, true, false, false, false, false] rfl rfl rfl rfl (two_of HT_.out (by kernel_rfl)) (by decide) (by decide) (fun K hK => ?_) (fun K hK => ?_)
             ·skip
              refine goes_ Try.func12 (by kernel_rfl) rfl #[.slice A0 y250.length c0] (by rfl) rfl rfl (by (try simp only [List.map_toArray, List.map_cons, List.map_nil]); first | done | rfl | (simp only [List.length_drop, List.length_take]; rfl)) ?_
              with_reducible refine (clerestoryref1_ActiveCheck.calls k _ _ y250 t263 _ ?side1 ?side2 A8.out).mono ?_
              (case side1 => repeat (first | exact (Kd.V_reads' HO254.out).2.2 | (with_reducible refine cA ?_ _) | (with_reducible refine cN ?_ _) | (with_reducible refine cD ?_)))
              (case side2 => exact (Kd.V_reads' HO254.out).2.1)
              rintro e w' ⟨rfl, ⟨nd, rfl⟩⟩
              refine ⟨_, rfl, ?_⟩
              refine hK.out _ _ ⟨(blk_cell BK249.out 0).trans rfl, (blk_cell BK249.out 1).trans rfl, (blk_cell BK249.out 2).trans rfl⟩ (fun hHeld => ?_)
              clear hK K
              refine norm_ (a' := ?_) ?_ ?_
              rotate_left
              ·show Act.put _ (some 30) _ = _
               simp only [Act.put, s1, s2, s3, i64_w, i32_w]
               rfl
              exact norm_ (by first | (simp only [putAll, Act.put, List.setIfInBounds_toArray, List.set_cons_zero, List.set_cons_succ]; done) | (simp only [putAll, Act.put, List.setIfInBounds_toArray, List.set_cons_zero, List.set_cons_succ]; rfl)) (hJ1_2 (v265) _ ⟨hHeld, (by (with_reducible repeat (first | apply vA | apply vN | apply vD)); exact HO0.out), (by (with_reducible repeat (first | apply vA | apply vN | apply vD)); exact HO1_2.out), (by (with_reducible repeat (first | apply vA | apply vN | apply vD)); exact HO254.out), (by (with_reducible repeat (first | apply nA | apply nN | apply nD)); exact HO257.out), (by (with_reducible repeat (first | apply vA | apply vN | apply vD)); exact HO261.out), (by (with_reducible repeat (first | apply nA | apply nN | apply nD)); exact HO266.out), (by (with_reducible repeat (first | refine kN ?_ _ | refine kD ?_ | refine kA ?_ _)); exact BK249.out), (by repeat (first | (with_reducible first | exact HB.out | apply bA | apply bN | apply bD | refine bS ?_ GE249.out) | exact HB.out))⟩)
             ·skip
              refine Kd.N_lit_step k25 _ 25 ?hg (N' := 35) ?hd (xs := ([(⟨a1_0, a1_1, l1_2⟩ : S25)] : List (S25))) (inner := [.int .i64 a1_0, .string a1_1, .slice A1_2 l1_2.length c1_2]) (ok := (fun k_ => ((P0_ k_ ∨ P1_2_ k_) ∨ w.heap.size ≤ k_) ∧ some k_ ≠ (v256 : Value).ownBlock ∧ some k_ ≠ (v265 : Value).ownBlock ∧ k_ ≠ gb249)) (okp := (fun k_ => ((P0_ k_ ∨ P1_2_ k_) ∨ w.heap.size ≤ k_) ∧ some k_ ≠ (v256 : Value).ownBlock ∧ some k_ ≠ (v265 : Value).ownBlock ∧ k_ ≠ gb249)) ?hr ?hp (fun _ hk => hk) ((show ∀ k_, w21.heap.size ≤ k_ → (fun k_ => ((P0_ k_ ∨ P1_2_ k_) ∨ w.heap.size ≤ k_) ∧ some k_ ≠ (v256 : Value).ownBlock ∧ some k_ ≠ (v265 : Value).ownBlock ∧ k_ ≠ gb249) k_ from fun k_ hk => ⟨(.inr (Nat.le_trans (below_size (by repeat (first | (with_reducible first | exact HB.out | apply bA | apply bN | apply bD | refine bS ?_ GE249.out) | exact HB.out))) hk)), Kd.fresh' (Kd.N_lt (by (with_reducible repeat (first | apply nA | apply nN | apply nD)); exact HO257.out)) k_ hk, Kd.fresh' (Kd.N_lt (by (with_reducible repeat (first | apply nA | apply nN | apply nD)); exact HO266.out)) k_ hk, Kd.freshB (g := gb249) (o := .cells #[.int .i64 a1_0, .string a1_1, .slice A1_2 l1_2.length c1_2] 25 (0, 0)) (by (with_reducible repeat (first | refine kN ?_ _ | refine kD ?_ | refine kA ?_ _)); exact BK249.out) k_ hk⟩) _ (by first | exact Nat.le_refl _ | simp)) (Below.refl _ _) (Nat.le_refl _) (by simp) ?_; (case hd => rfl); (case hg => rfl); (case hr => first | (go_simp; done) | (go_simp; rfl)); (case hp => exact (Reps.c3 (show Kd.FK k25 _ _ (⟨a1_0, a1_1, l1_2⟩ : S25) [.int .i64 a1_0, .string a1_1, .slice A1_2 l1_2.length c1_2] from (k25_mkFV _ _ (⟨a1_0, a1_1, l1_2⟩ : S25) (Kd.V_mono (ok' := (fun k_ => ((P0_ k_ ∨ P1_2_ k_) ∨ w.heap.size ≤ k_) ∧ some k_ ≠ (v256 : Value).ownBlock ∧ some k_ ≠ (v265 : Value).ownBlock ∧ k_ ≠ gb249)) (HO1_2.out) (fun k_ hk => ⟨hk.1, ⟨hk.2.1, ⟨hk.2.2.1, hk.2.2.2⟩⟩⟩)))) (Reps.none _ _)))
              intro v271 w22 ho23 hb hg_ hnew_
              clear hg_ hnew_
              (first | rw [← Ny270.out] at ho23 | (simp only [Int.reduceToNat] at ho23; rw [← Ny270.out] at ho23))
              have n0_ := aS (Kd.V_elder' (by (with_reducible repeat (first | apply vA | apply vN | apply vD)); exact HO0.out) (Kd.N_base ho23) hb)
              have n1_ := aS (Kd.V_elder' (by (with_reducible repeat (first | apply vA | apply vN | apply vD)); exact HO1_2.out) (Kd.N_base ho23) hb)
              have n2_ := aS (Kd.V_elder' (by (with_reducible repeat (first | apply vA | apply vN | apply vD)); exact HO254.out) (Kd.N_base ho23) hb)
              have n3_ := aS (Kd.N_elder' (by (with_reducible repeat (first | apply nA | apply nN | apply nD)); exact HO257.out) (Kd.N_base ho23) hb)
              have n4_ := aS (Kd.V_elder' (by (with_reducible repeat (first | apply vA | apply vN | apply vD)); exact HO261.out) (Kd.N_base ho23) hb)
              have n5_ := aS (Kd.N_elder' (by (with_reducible repeat (first | apply nA | apply nN | apply nD)); exact HO266.out) (Kd.N_base ho23) hb)
              have n6_ := aS (Kd.N_lower ho23 (below_size (by repeat (first | (with_reducible first | exact HB.out | apply bA | apply bN | apply bD | refine bS ?_ GE249.out) | exact HB.out))))
              have n7_ := aS (blk_below (g := gb249) (o := .cells #[.int .i64 a1_0, .string a1_1, .slice A1_2 l1_2.length c1_2] 25 (0, 0)) (by (with_reducible repeat (first | refine kN ?_ _ | refine kD ?_ | refine kA ?_ _)); exact BK249.out) hb)
              have n8_ := aS (below_step (by repeat (first | (with_reducible first | exact HB.out | apply bA | apply bN | apply bD | refine bS ?_ GE249.out) | exact HB.out)) hb)
              clear HO0
              clear HO1_2
              clear HO254
              clear HO257
              clear HO261
              clear HO266
              clear BK249
              clear HB
              have HO0 := n0_
              have HO1_2 := n1_
              have HO254 := n2_
              have HO257 := n3_
              have HO261 := n4_
              have HO266 := n5_
              have HO272 := n6_
              have BK249 := n7_
              have HB := n8_
              clear n0_ n1_ n2_ n3_ n4_ n5_ n6_ n7_ n8_
              clear hb ho23
              refine hK.out _ _ ⟨(blk_cell BK249.out 0).trans rfl, (blk_cell BK249.out 1).trans rfl, (blk_cell BK249.out 2).trans rfl⟩ (fun hHeld => ?_)
              clear hK K
              refine norm_ (a' := ?_) ?_ ?_
              rotate_left
              ·show Act.put _ (some 35) _ = _
               simp only [Act.put, s1, s2, s3, i64_w, i32_w]
               rfl
              exact norm_ (by first | (simp only [putAll, Act.put, List.setIfInBounds_toArray, List.set_cons_zero, List.set_cons_succ]; done) | (simp only [putAll, Act.put, List.setIfInBounds_toArray, List.set_cons_zero, List.set_cons_succ]; rfl)) (hJ2_6 (v265, v271) _ ⟨hHeld, (by (with_reducible repeat (first | apply vA | apply vN | apply vD)); exact Kd.V_mono HO0.out (fun _ hk => ⟨hk.1.1, ⟨hk.1.2.1, ⟨hk.1.2.2.1, ⟨hk.2, hk.1.2.2.2⟩⟩⟩⟩)), (by (with_reducible repeat (first | apply vA | apply vN | apply vD)); exact Kd.V_mono HO1_2.out (fun _ hk => ⟨hk.1.1, ⟨hk.1.2.1, ⟨hk.1.2.2.1, ⟨hk.2, hk.1.2.2.2⟩⟩⟩⟩)), (by (with_reducible repeat (first | apply vA | apply vN | apply vD)); exact Kd.V_mono HO254.out (fun _ hk => ⟨hk.1.1, ⟨hk.1.2.1, ⟨hk.1.2.2.1, ⟨hk.2, hk.1.2.2.2⟩⟩⟩⟩)), (by (with_reducible repeat (first | apply nA | apply nN | apply nD)); exact Kd.N_mono HO257.out (fun _ hk => ⟨hk.1.1, ⟨hk.1.2.1, ⟨hk.2, hk.1.2.2⟩⟩⟩)), (by (with_reducible repeat (first | apply vA | apply vN | apply vD)); exact Kd.V_mono HO261.out (fun _ hk => ⟨hk.1.1, ⟨hk.1.2.1, ⟨hk.1.2.2.1, ⟨hk.2, hk.1.2.2.2⟩⟩⟩⟩)), (by (with_reducible repeat (first | apply nA | apply nN | apply nD)); exact Kd.N_mono HO266.out (fun _ hk => ⟨hk.1.1, ⟨hk.1.2.1, ⟨hk.2, hk.1.2.2⟩⟩⟩)), (by (with_reducible repeat (first | apply nA | apply nN | apply nD)); exact HO272.out), (by (with_reducible repeat (first | refine kN ?_ _ | refine kD ?_ | refine kA ?_ _)); exact BK249.out), (by repeat (first | (with_reducible first | exact HB.out | apply bA | apply bN | apply bD | refine bS ?_ GE249.out) | exact HB.out))⟩)
           ·skip
            rintro _ w19 ⟨hS_, h0_, h1_, h2_, h3_, h4_, h5_, h6_⟩
            have n0_ : Aside0 (Kd.V k25 25 w19 w.heap.size (fun k_ => ((P0_ k_ ∨ P1_2_ k_) ∨ w.heap.size ≤ k_) ∧ some k_ ≠ (v256 : Value).ownBlock ∧ k_ ≠ gb249) (.slice A0 l0.length c0) l0) := ⟨h0_⟩
            have n1_ : Aside0 (Kd.V k99 99 w19 w.heap.size (fun k_ => ((P0_ k_ ∨ P1_2_ k_) ∨ w.heap.size ≤ k_) ∧ some k_ ≠ (v256 : Value).ownBlock ∧ k_ ≠ gb249) (.slice A1_2 l1_2.length c1_2) l1_2) := ⟨h1_⟩
            have n2_ : Aside0 (Kd.V k25 25 w19 w.heap.size (fun k_ => ((P0_ k_ ∨ P1_2_ k_) ∨ w.heap.size ≤ k_) ∧ some k_ ≠ (v256 : Value).ownBlock ∧ k_ ≠ gb249) (.slice A0 y250.length c0) y250) := ⟨h2_⟩
            have n3_ : Aside0 (Kd.N k25 25 w19 w.heap.size (fun k_ => ((P0_ k_ ∨ P1_2_ k_) ∨ w.heap.size ≤ k_) ∧ k_ ≠ gb249) v256 t255) := ⟨h3_⟩
            have n4_ : Aside0 (Kd.V k25 25 w19 w.heap.size (fun k_ => ((P0_ k_ ∨ P1_2_ k_) ∨ w.heap.size ≤ k_) ∧ some k_ ≠ (v256 : Value).ownBlock ∧ k_ ≠ gb249) v260 t259) := ⟨h4_⟩
            have n5_ : Aside0 (w19.heap[gb249]? = some (.cells #[.int .i64 a1_0, .string a1_1, .slice A1_2 l1_2.length c1_2] 25 (0, 0))) := ⟨h5_⟩
            have n6_ : Aside0 (Below w.heap.size w w19) := ⟨h6_⟩
            clear HO0
            clear HO1_2
            clear HO254
            clear HO257
            clear HO261
            clear BK249
            clear HB
            clear h0_ h1_ h2_ h3_ h4_ h5_ h6_
            have HO0 := n0_
            have HO1_2 := n1_
            have HO254 := n2_
            have HO257 := n3_
            have HO261 := n4_
            have BK249 := n5_
            have HB := n6_
            clear n0_ n1_ n2_ n3_ n4_ n5_ n6_
            have hHeld : w19.cell? ⟨gb249, 0, none⟩ = some (.int .i64 a1_0) ∧ w19.cell? ⟨gb249, 1, none⟩ = some (.string a1_1) ∧ w19.cell? ⟨gb249, 2, none⟩ = some (.slice A1_2 l1_2.length c1_2) := hS_
            refine norm_ (a' := ?_) ?_ ?_
            rotate_left
            ·simp only [putAll, Act.put, List.setIfInBounds_toArray, List.set_cons_zero, List.set_cons_succ]
             rfl
            refine two_ (i := 2) (j := 6) (Ni := some 31) (Nj := some 35) #[true, true, true, true, false, true, false, false, false, false, false] #[true, true, false, true, false, true, true, false, false, false, false] rfl rfl rfl rfl (two_of HT_.out (by kernel_rfl)) (by decide) (by decide) (fun K hK => ?_) (fun K hK => ?_)
            ·skip
             refine Kd.N_lit_step k25 _ 25 ?hg (N' := 31) ?hd (xs := ([] : List (S25))) (inner := []) (ok := (fun k_ => ((P0_ k_ ∨ P1_2_ k_) ∨ w.heap.size ≤ k_) ∧ some k_ ≠ (v256 : Value).ownBlock ∧ k_ ≠ gb249)) (okp := (fun k_ => ((P0_ k_ ∨ P1_2_ k_) ∨ w.heap.size ≤ k_) ∧ some k_ ≠ (v256 : Value).ownBlock ∧ k_ ≠ gb249)) ?hr ?hp (fun _ hk => hk) ((show ∀ k_, w19.heap.size ≤ k_ → (fun k_ => ((P0_ k_ ∨ P1_2_ k_) ∨ w.heap.size ≤ k_) ∧ some k_ ≠ (v256 : Value).ownBlock ∧ k_ ≠ gb249) k_ from fun k_ hk => ⟨(.inr (Nat.le_trans (below_size (by repeat (first | (with_reducible first | exact HB.out | apply bA | apply bN | apply bD | refine bS ?_ GE249.out) | exact HB.out))) hk)), Kd.fresh' (Kd.N_lt (by (with_reducible repeat (first | apply nA | apply nN | apply nD)); exact HO257.out)) k_ hk, Kd.freshB (g := gb249) (o := .cells #[.int .i64 a1_0, .string a1_1, .slice A1_2 l1_2.length c1_2] 25 (0, 0)) (by (with_reducible repeat (first | refine kN ?_ _ | refine kD ?_ | refine kA ?_ _)); exact BK249.out) k_ hk⟩) _ (by first | exact Nat.le_refl _ | simp)) (Below.refl _ _) (Nat.le_refl _) (by simp) ?_; (case hd => rfl); (case hg => rfl); (case hr => first | (go_simp; done) | (go_simp; rfl)); (case hp => exact (Reps.none _ _))
             intro v265 w20 ho21 hb hg_ hnew_
             clear hg_ hnew_
             (first | rw [← Ny264.out] at ho21 | (simp only [Int.reduceToNat] at ho21; rw [← Ny264.out] at ho21))
             have n0_ := aS (Kd.V_elder' (by (with_reducible repeat (first | apply vA | apply vN | apply vD)); exact HO0.out) (Kd.N_base ho21) hb)
             have n1_ := aS (Kd.V_elder' (by (with_reducible repeat (first | apply vA | apply vN | apply vD)); exact HO1_2.out) (Kd.N_base ho21) hb)
             have n2_ := aS (Kd.V_elder' (by (with_reducible repeat (first | apply vA | apply vN | apply vD)); exact HO254.out) (Kd.N_base ho21) hb)
             have n3_ := aS (Kd.N_elder' (by (with_reducible repeat (first | apply nA | apply nN | apply nD)); exact HO257.out) (Kd.N_base ho21) hb)
             have n4_ := aS (Kd.V_elder' (by (with_reducible repeat (first | apply vA | apply vN | apply vD)); exact HO261.out) (Kd.N_base ho21) hb)
             have n5_ := aS (Kd.N_lower ho21 (below_size (by repeat (first | (with_reducible first | exact HB.out | apply bA | apply bN | apply bD | refine bS ?_ GE249.out) | exact HB.out))))
             have n6_ := aS (blk_below (g := gb249) (o := .cells #[.int .i64 a1_0, .string a1_1, .slice A1_2 l1_2.length c1_2] 25 (0, 0)) (by (with_reducible repeat (first | refine kN ?_ _ | refine kD ?_ | refine kA ?_ _)); exact BK249.out) hb)
             have n7_ := aS (below_step (by repeat (first | (with_reducible first | exact HB.out | apply bA | apply bN | apply bD | refine bS ?_ GE249.out) | exact HB.out)) hb)
             clear HO0
             clear HO1_2
             clear HO254
             clear HO257
             clear HO261
             clear BK249
             clear HB
             have HO0 := n0_
             have HO1_2 := n1_
             have HO254 := n2_
             have HO257 := n3_
             have HO261 := n4_
             have HO266 := n5_
             have BK249 := n6_
             have HB := n7_
             clear n0_ n1_ n2_ n3_ n4_ n5_ n6_ n7_
             clear hb ho21
             refine hK.out _ _ ⟨(blk_cell BK249.out 0).trans rfl, (blk_cell BK249.out 1).trans rfl, (blk_cell BK249.out 2).trans rfl⟩ (fun hHeld => ?_)
             clear hK K
             refine norm_ (a' := ?_) ?_ ?_
             rotate_left
             ·show Act.put _ (some 31) _ = _
              simp only [Act.put, s1, s2, s3, i64_w, i32_w]
              rfl
             exact norm_ (by first | (simp only [putAll, Act.put, List.setIfInBounds_toArray, List.set_cons_zero, List.set_cons_succ]; done) | (simp only [putAll, Act.put, List.setIfInBounds_toArray, List.set_cons_zero, List.set_cons_succ]; rfl)) (hJ1_2 (v265) _ ⟨hHeld, (by (with_reducible repeat (first | apply vA | apply vN | apply vD)); exact Kd.V_mono HO0.out (fun _ hk => ⟨hk.1.1, ⟨hk.1.2.1, ⟨hk.2, hk.1.2.2⟩⟩⟩)), (by (with_reducible repeat (first | apply vA | apply vN | apply vD)); exact Kd.V_mono HO1_2.out (fun _ hk => ⟨hk.1.1, ⟨hk.1.2.1, ⟨hk.2, hk.1.2.2⟩⟩⟩)), (by (with_reducible repeat (first | apply vA | apply vN | apply vD)); exact Kd.V_mono HO254.out (fun _ hk => ⟨hk.1.1, ⟨hk.1.2.1, ⟨hk.2, hk.1.2.2⟩⟩⟩)), (by (with_reducible repeat (first | apply nA | apply nN | apply nD)); exact Kd.N_mono HO257.out (fun _ hk => ⟨hk.1.1, ⟨hk.2, hk.1.2⟩⟩)), (by (with_reducible repeat (first | apply vA | apply vN | apply vD)); exact Kd.V_mono HO261.out (fun _ hk => ⟨hk.1.1, ⟨hk.1.2.1, ⟨hk.2, hk.1.2.2⟩⟩⟩)), (by (with_reducible repeat (first | apply nA | apply nN | apply nD)); exact HO266.out), (by (with_reducible repeat (first | refine kN ?_ _ | refine kD ?_ | refine kA ?_ _)); exact BK249.out), (by repeat (first | (with_reducible first | exact HB.out | apply bA | apply bN | apply bD | refine bS ?_ GE249.out) | exact HB.out))⟩)
            ·skip
             refine Kd.N_lit_step k25 _ 25 ?hg (N' := 35) ?hd (xs := ([(⟨a1_0, a1_1, l1_2⟩ : S25)] : List (S25))) (inner := [.int .i64 a1_0, .string a1_1, .slice A1_2 l1_2.length c1_2]) (ok := (fun k_ => ((P0_ k_ ∨ P1_2_ k_) ∨ w.heap.size ≤ k_) ∧ some k_ ≠ (v256 : Value).ownBlock ∧ k_ ≠ gb249)) (okp := (fun k_ => ((P0_ k_ ∨ P1_2_ k_) ∨ w.heap.size ≤ k_) ∧ some k_ ≠ (v256 : Value).ownBlock ∧ k_ ≠ gb249)) ?hr ?hp (fun _ hk => hk) ((show ∀ k_, w19.heap.size ≤ k_ → (fun k_ => ((P0_ k_ ∨ P1_2_ k_) ∨ w.heap.size ≤ k_) ∧ some k_ ≠ (v256 : Value).ownBlock ∧ k_ ≠ gb249) k_ from fun k_ hk => ⟨(.inr (Nat.le_trans (below_size (by repeat (first | (with_reducible first | exact HB.out | apply bA | apply bN | apply bD | refine bS ?_ GE249.out) | exact HB.out))) hk)), Kd.fresh' (Kd.N_lt (by (with_reducible repeat (first | apply nA | apply nN | apply nD)); exact HO257.out)) k_ hk, Kd.freshB (g := gb249) (o := .cells #[.int .i64 a1_0, .string a1_1, .slice A1_2 l1_2.length c1_2] 25 (0, 0)) (by (with_reducible repeat (first | refine kN ?_ _ | refine kD ?_ | refine kA ?_ _)); exact BK249.out) k_ hk⟩) _ (by first | exact Nat.le_refl _ | simp)) (Below.refl _ _) (Nat.le_refl _) (by simp) ?_; (case hd => rfl); (case hg => rfl); (case hr => first | (go_simp; done) | (go_simp; rfl)); (case hp => exact (Reps.c3 (show Kd.FK k25 _ _ (⟨a1_0, a1_1, l1_2⟩ : S25) [.int .i64 a1_0, .string a1_1, .slice A1_2 l1_2.length c1_2] from (k25_mkFV _ _ (⟨a1_0, a1_1, l1_2⟩ : S25) (Kd.V_mono (ok' := (fun k_ => ((P0_ k_ ∨ P1_2_ k_) ∨ w.heap.size ≤ k_) ∧ some k_ ≠ (v256 : Value).ownBlock ∧ k_ ≠ gb249)) (HO1_2.out) (fun k_ hk => ⟨hk.1, ⟨hk.2.1, hk.2.2⟩⟩)))) (Reps.none _ _)))
             intro v271 w20 ho21 hb hg_ hnew_
             clear hg_ hnew_
             (first | rw [← Ny270.out] at ho21 | (simp only [Int.reduceToNat] at ho21; rw [← Ny270.out] at ho21))
             have n0_ := aS (Kd.V_elder' (by (with_reducible repeat (first | apply vA | apply vN | apply vD)); exact HO0.out) (Kd.N_base ho21) hb)
             have n1_ := aS (Kd.V_elder' (by (with_reducible repeat (first | apply vA | apply vN | apply vD)); exact HO1_2.out) (Kd.N_base ho21) hb)
             have n2_ := aS (Kd.V_elder' (by (with_reducible repeat (first | apply vA | apply vN | apply vD)); exact HO254.out) (Kd.N_base ho21) hb)
             have n3_ := aS (Kd.N_elder' (by (with_reducible repeat (first | apply nA | apply nN | apply nD)); exact HO257.out) (Kd.N_base ho21) hb)
             have n4_ := aS (Kd.V_elder' (by (with_reducible repeat (first | apply vA | apply vN | apply vD)); exact HO261.out) (Kd.N_base ho21) hb)
             have n5_ := aS (Kd.N_lower ho21 (below_size (by repeat (first | (with_reducible first | exact HB.out | apply bA | apply bN | apply bD | refine bS ?_ GE249.out) | exact HB.out))))
             have n6_ := aS (blk_below (g := gb249) (o := .cells #[.int .i64 a1_0, .string a1_1, .slice A1_2 l1_2.length c1_2] 25 (0, 0)) (by (with_reducible repeat (first | refine kN ?_ _ | refine kD ?_ | refine kA ?_ _)); exact BK249.out) hb)
             have n7_ := aS (below_step (by repeat (first | (with_reducible first | exact HB.out | apply bA | apply bN | apply bD | refine bS ?_ GE249.out) | exact HB.out)) hb)
             clear HO0
             clear HO1_2
             clear HO254
             clear HO257
             clear HO261
             clear BK249
             clear HB
             have HO0 := n0_
             have HO1_2 := n1_
             have HO254 := n2_
             have HO257 := n3_
             have HO261 := n4_
             have HO272 := n5_
             have BK249 := n6_
             have HB := n7_
             clear n0_ n1_ n2_ n3_ n4_ n5_ n6_ n7_
             clear hb ho21
             refine hK.out _ _ ⟨(blk_cell BK249.out 0).trans rfl, (blk_cell BK249.out 1).trans rfl, (blk_cell BK249.out 2).trans rfl⟩ (fun hHeld => ?_)
             clear hK K
             refine norm_ (a' := ?_) ?_ ?_
             rotate_left
             ·show Act.put _ (some 35) _ = _
              simp only [Act.put, s1, s2, s3, i64_w, i32_w]
              rfl
             exact norm_ (by first | (simp only [putAll, Act.put, List.setIfInBounds_toArray, List.set_cons_zero, List.set_cons_succ]; done) | (simp only [putAll, Act.put, List.setIfInBounds_toArray, List.set_cons_zero, List.set_cons_succ]; rfl)) (hJ1_6 (v271) _ ⟨hHeld, (by (with_reducible repeat (first | apply vA | apply vN | apply vD)); exact Kd.V_mono HO0.out (fun _ hk => ⟨hk.1.1, ⟨hk.1.2.1, ⟨hk.2, hk.1.2.2⟩⟩⟩)), (by (with_reducible repeat (first | apply vA | apply vN | apply vD)); exact Kd.V_mono HO1_2.out (fun _ hk => ⟨hk.1.1, ⟨hk.1.2.1, ⟨hk.2, hk.1.2.2⟩⟩⟩)), (by (with_reducible repeat (first | apply vA | apply vN | apply vD)); exact Kd.V_mono HO254.out (fun _ hk => ⟨hk.1.1, ⟨hk.1.2.1, ⟨hk.2, hk.1.2.2⟩⟩⟩)), (by (with_reducible repeat (first | apply nA | apply nN | apply nD)); exact Kd.N_mono HO257.out (fun _ hk => ⟨hk.1.1, ⟨hk.2, hk.1.2⟩⟩)), (by (with_reducible repeat (first | apply vA | apply vN | apply vD)); exact Kd.V_mono HO261.out (fun _ hk => ⟨hk.1.1, ⟨hk.1.2.1, ⟨hk.2, hk.1.2.2⟩⟩⟩)), (by (with_reducible repeat (first | apply nA | apply nN | apply nD)); exact HO272.out), (by (with_reducible repeat (first | refine kN ?_ _ | refine kD ?_ | refine kA ?_ _)); exact BK249.out), (by repeat (first | (with_reducible first | exact HB.out | apply bA | apply bN | apply bD | refine bS ?_ GE249.out) | exact HB.out))⟩)
          ·skip
           rintro ⟨v265, v271⟩ w23 ⟨hS_, h0_, h1_, h2_, h3_, h4_, h5_, h6_, h7_, h8_⟩
           have n0_ : Aside0 (Kd.V k25 25 w23 w.heap.size (fun k_ => ((P0_ k_ ∨ P1_2_ k_) ∨ w.heap.size ≤ k_) ∧ some k_ ≠ (v256 : Value).ownBlock ∧ some k_ ≠ (v265 : Value).ownBlock ∧ some k_ ≠ (v271 : Value).ownBlock ∧ k_ ≠ gb249) (.slice A0 l0.length c0) l0) := ⟨h0_⟩
           have n1_ : Aside0 (Kd.V k99 99 w23 w.heap.size (fun k_ => ((P0_ k_ ∨ P1_2_ k_) ∨ w.heap.size ≤ k_) ∧ some k_ ≠ (v256 : Value).ownBlock ∧ some k_ ≠ (v265 : Value).ownBlock ∧ some k_ ≠ (v271 : Value).ownBlock ∧ k_ ≠ gb249) (.slice A1_2 l1_2.length c1_2) l1_2) := ⟨h1_⟩
           have n2_ : Aside0 (Kd.V k25 25 w23 w.heap.size (fun k_ => ((P0_ k_ ∨ P1_2_ k_) ∨ w.heap.size ≤ k_) ∧ some k_ ≠ (v256 : Value).ownBlock ∧ some k_ ≠ (v265 : Value).ownBlock ∧ some k_ ≠ (v271 : Value).ownBlock ∧ k_ ≠ gb249) (.slice A0 y250.length c0) y250) := ⟨h2_⟩
           have n3_ : Aside0 (Kd.N k25 25 w23 w.heap.size (fun k_ => ((P0_ k_ ∨ P1_2_ k_) ∨ w.heap.size ≤ k_) ∧ some k_ ≠ (v265 : Value).ownBlock ∧ some k_ ≠ (v271 : Value).ownBlock ∧ k_ ≠ gb249) v256 t255) := ⟨h3_⟩
           have n4_ : Aside0 (Kd.V k25 25 w23 w.heap.size (fun k_ => ((P0_ k_ ∨ P1_2_ k_) ∨ w.heap.size ≤ k_) ∧ some k_ ≠ (v256 : Value).ownBlock ∧ some k_ ≠ (v265 : Value).ownBlock ∧ some k_ ≠ (v271 : Value).ownBlock ∧ k_ ≠ gb249) v260 t259) := ⟨h4_⟩
           have n5_ : Aside0 (Kd.N k25 25 w23 w.heap.size (fun k_ => ((P0_ k_ ∨ P1_2_ k_) ∨ w.heap.size ≤ k_) ∧ some k_ ≠ (v256 : Value).ownBlock ∧ some k_ ≠ (v271 : Value).ownBlock ∧ k_ ≠ gb249) v265 y264) := ⟨h5_⟩
           have n6_ : Aside0 (Kd.N k25 25 w23 w.heap.size (fun k_ => ((P0_ k_ ∨ P1_2_ k_) ∨ w.heap.size ≤ k_) ∧ some k_ ≠ (v256 : Value).ownBlock ∧ some k_ ≠ (v265 : Value).ownBlock ∧ k_ ≠ gb249) v271 y270) := ⟨h6_⟩
           have n7_ : Aside0 (w23.heap[gb249]? = some (.cells #[.int .i64 a1_0, .string a1_1, .slice A1_2 l1_2.length c1_2] 25 (0, 0))) := ⟨h7_⟩
           have n8_ : Aside0 (Below w.heap.size w w23) := ⟨h8_⟩
           clear HO0
           clear HO1_2
           clear HO254
           clear HO257
           clear HO261
           clear BK249
           clear HB
           clear h0_ h1_ h2_ h3_ h4_ h5_ h6_ h7_ h8_
           have HO0 := n0_
           have HO1_2 := n1_
           have HO254 := n2_
           have HO257 := n3_
           have HO261 := n4_
           have HO266 := n5_
           have HO272 := n6_
           have BK249 := n7_
           have HB := n8_
           clear n0_ n1_ n2_ n3_ n4_ n5_ n6_ n7_ n8_
           have hHeld : w23.cell? ⟨gb249, 0, none⟩ = some (.int .i64 a1_0) ∧ w23.cell? ⟨gb249, 1, none⟩ = some (.string a1_1) ∧ w23.cell? ⟨gb249, 2, none⟩ = some (.slice A1_2 l1_2.length c1_2) := hS_
           refine norm_ (a' := ?_) ?_ ?_
           rotate_left
           ·simp only [putAll, Act.put, List.setIfInBounds_toArray, List.set_cons_zero, List.set_cons_succ]
            rfl
           refine one_ (i := 1) (N := some 30) #[true, true, true, true, false, true, true, false, false, false, false] rfl rfl (one_of HT_.out (by kernel_rfl)) (by decide) (fun K hK => ?_)
           refine goes_ Try.func12 (by kernel_rfl) rfl #[.slice A0 y250.length c0] (by rfl) rfl rfl (by (try simp only [List.map_toArray, List.map_cons, List.map_nil]); first | done | rfl | (simp only [List.length_drop, List.length_take]; rfl)) ?_
           with_reducible refine (clerestoryref1_ActiveCheck.calls k _ _ y250 t263 _ ?side1 ?side2 A8.out).mono ?_
           (case side1 => repeat (first | exact (Kd.V_reads' HO254.out).2.2 | (with_reducible refine cA ?_ _) | (with_reducible refine cN ?_ _) | (with_reducible refine cD ?_)))
           (case side2 => exact (Kd.V_reads' HO254.out).2.1)
           rintro e w' ⟨rfl, ⟨nd, rfl⟩⟩
           refine ⟨_, rfl, ?_⟩
           refine hK.out _ _ ⟨(blk_cell BK249.out 0).trans rfl, (blk_cell BK249.out 1).trans rfl, (blk_cell BK249.out 2).trans rfl⟩ (fun hHeld => ?_)
           clear hK K
           refine norm_ (a' := ?_) ?_ ?_
           rotate_left
           ·show Act.put _ (some 30) _ = _
            simp only [Act.put, s1, s2, s3, i64_w, i32_w]
            rfl
           exact norm_ (by first | (simp only [putAll, Act.put, List.setIfInBounds_toArray, List.set_cons_zero, List.set_cons_succ]; done) | (simp only [putAll, Act.put, List.setIfInBounds_toArray, List.set_cons_zero, List.set_cons_succ]; rfl)) (hJ1_2_6 (v265, v271) _ ⟨hHeld, (by (with_reducible repeat (first | apply vA | apply vN | apply vD)); exact HO0.out), (by (with_reducible repeat (first | apply vA | apply vN | apply vD)); exact HO1_2.out), (by (with_reducible repeat (first | apply vA | apply vN | apply vD)); exact HO254.out), (by (with_reducible repeat (first | apply nA | apply nN | apply nD)); exact HO257.out), (by (with_reducible repeat (first | apply vA | apply vN | apply vD)); exact HO261.out), (by (with_reducible repeat (first | apply nA | apply nN | apply nD)); exact HO266.out), (by (with_reducible repeat (first | apply nA | apply nN | apply nD)); exact HO272.out), (by (with_reducible repeat (first | refine kN ?_ _ | refine kD ?_ | refine kA ?_ _)); exact BK249.out), (by repeat (first | (with_reducible first | exact HB.out | apply bA | apply bN | apply bD | refine bS ?_ GE249.out) | exact HB.out))⟩)
         ·skip
          rintro v271 w21 ⟨hS_, h0_, h1_, h2_, h3_, h4_, h5_, h6_, h7_⟩
          have n0_ : Aside0 (Kd.V k25 25 w21 w.heap.size (fun k_ => ((P0_ k_ ∨ P1_2_ k_) ∨ w.heap.size ≤ k_) ∧ some k_ ≠ (v256 : Value).ownBlock ∧ some k_ ≠ (v271 : Value).ownBlock ∧ k_ ≠ gb249) (.slice A0 l0.length c0) l0) := ⟨h0_⟩
          have n1_ : Aside0 (Kd.V k99 99 w21 w.heap.size (fun k_ => ((P0_ k_ ∨ P1_2_ k_) ∨ w.heap.size ≤ k_) ∧ some k_ ≠ (v256 : Value).ownBlock ∧ some k_ ≠ (v271 : Value).ownBlock ∧ k_ ≠ gb249) (.slice A1_2 l1_2.length c1_2) l1_2) := ⟨h1_⟩
          have n2_ : Aside0 (Kd.V k25 25 w21 w.heap.size (fun k_ => ((P0_ k_ ∨ P1_2_ k_) ∨ w.heap.size ≤ k_) ∧ some k_ ≠ (v256 : Value).ownBlock ∧ some k_ ≠ (v271 : Value).ownBlock ∧ k_ ≠ gb249) (.slice A0 y250.length c0) y250) := ⟨h2_⟩
          have n3_ : Aside0 (Kd.N k25 25 w21 w.heap.size (fun k_ => ((P0_ k_ ∨ P1_2_ k_) ∨ w.heap.size ≤ k_) ∧ some k_ ≠ (v271 : Value).ownBlock ∧ k_ ≠ gb249) v256 t255) := ⟨h3_⟩
          have n4_ : Aside0 (Kd.V k25 25 w21 w.heap.size (fun k_ => ((P0_ k_ ∨ P1_2_ k_) ∨ w.heap.size ≤ k_) ∧ some k_ ≠ (v256 : Value).ownBlock ∧ some k_ ≠ (v271 : Value).ownBlock ∧ k_ ≠ gb249) v260 t259) := ⟨h4_⟩
          have n5_ : Aside0 (Kd.N k25 25 w21 w.heap.size (fun k_ => ((P0_ k_ ∨ P1_2_ k_) ∨ w.heap.size ≤ k_) ∧ some k_ ≠ (v256 : Value).ownBlock ∧ k_ ≠ gb249) v271 y270) := ⟨h5_⟩
          have n6_ : Aside0 (w21.heap[gb249]? = some (.cells #[.int .i64 a1_0, .string a1_1, .slice A1_2 l1_2.length c1_2] 25 (0, 0))) := ⟨h6_⟩
          have n7_ : Aside0 (Below w.heap.size w w21) := ⟨h7_⟩
          clear HO0
          clear HO1_2
          clear HO254
          clear HO257
          clear HO261
          clear BK249
          clear HB
          clear h0_ h1_ h2_ h3_ h4_ h5_ h6_ h7_
          have HO0 := n0_
          have HO1_2 := n1_
          have HO254 := n2_
          have HO257 := n3_
          have HO261 := n4_
          have HO272 := n5_
          have BK249 := n6_
          have HB := n7_
          clear n0_ n1_ n2_ n3_ n4_ n5_ n6_ n7_
          have hHeld : w21.cell? ⟨gb249, 0, none⟩ = some (.int .i64 a1_0) ∧ w21.cell? ⟨gb249, 1, none⟩ = some (.string a1_1) ∧ w21.cell? ⟨gb249, 2, none⟩ = some (.slice A1_2 l1_2.length c1_2) := hS_
          refine norm_ (a' := ?_) ?_ ?_
          rotate_left
          ·simp only [putAll, Act.put, List.setIfInBounds_toArray, List.set_cons_zero, List.set_cons_succ]
           rfl
          refine one_ (i := 2) (N := some 31) #[true, true, true, true, false, true, true, false, false, false, false] rfl rfl (one_of HT_.out (by kernel_rfl)) (by decide) (fun K hK => ?_)
          refine Kd.N_lit_step k25 _ 25 ?hg (N' := 31) ?hd (xs := ([] : List (S25))) (inner := []) (ok := (fun k_ => ((P0_ k_ ∨ P1_2_ k_) ∨ w.heap.size ≤ k_) ∧ some k_ ≠ (v256 : Value).ownBlock ∧ some k_ ≠ (v271 : Value).ownBlock ∧ k_ ≠ gb249)) (okp := (fun k_ => ((P0_ k_ ∨ P1_2_ k_) ∨ w.heap.size ≤ k_) ∧ some k_ ≠ (v256 : Value).ownBlock ∧ some k_ ≠ (v271 : Value).ownBlock ∧ k_ ≠ gb249)) ?hr ?hp (fun _ hk => hk) ((show ∀ k_, w21.heap.size ≤ k_ → (fun k_ => ((P0_ k_ ∨ P1_2_ k_) ∨ w.heap.size ≤ k_) ∧ some k_ ≠ (v256 : Value).ownBlock ∧ some k_ ≠ (v271 : Value).ownBlock ∧ k_ ≠ gb249) k_ from fun k_ hk => ⟨(.inr (Nat.le_trans (below_size (by repeat (first | (with_reducible first | exact HB.out | apply bA | apply bN | apply bD | refine bS ?_ GE249.out) | exact HB.out))) hk)), Kd.fresh' (Kd.N_lt (by (with_reducible repeat (first | apply nA | apply nN | apply nD)); exact HO257.out)) k_ hk, Kd.fresh' (Kd.N_lt (by (with_reducible repeat (first | apply nA | apply nN | apply nD)); exact HO272.out)) k_ hk, Kd.freshB (g := gb249) (o := .cells #[.int .i64 a1_0, .string a1_1, .slice A1_2 l1_2.length c1_2] 25 (0, 0)) (by (with_reducible repeat (first | refine kN ?_ _ | refine kD ?_ | refine kA ?_ _)); exact BK249.out) k_ hk⟩) _ (by first | exact Nat.le_refl _ | simp)) (Below.refl _ _) (Nat.le_refl _) (by simp) ?_; (case hd => rfl); (case hg => rfl); (case hr => first | (go_simp; done) | (go_simp; rfl)); (case hp => exact (Reps.none _ _))
          intro v265 w22 ho23 hb hg_ hnew_
          clear hg_ hnew_
          (first | rw [← Ny264.out] at ho23 | (simp only [Int.reduceToNat] at ho23; rw [← Ny264.out] at ho23))
          have n0_ := aS (Kd.V_elder' (by (with_reducible repeat (first | apply vA | apply vN | apply vD)); exact HO0.out) (Kd.N_base ho23) hb)
          have n1_ := aS (Kd.V_elder' (by (with_reducible repeat (first | apply vA | apply vN | apply vD)); exact HO1_2.out) (Kd.N_base ho23) hb)
          have n2_ := aS (Kd.V_elder' (by (with_reducible repeat (first | apply vA | apply vN | apply vD)); exact HO254.out) (Kd.N_base ho23) hb)
          have n3_ := aS (Kd.N_elder' (by (with_reducible repeat (first | apply nA | apply nN | apply nD)); exact HO257.out) (Kd.N_base ho23) hb)
          have n4_ := aS (Kd.V_elder' (by (with_reducible repeat (first | apply vA | apply vN | apply vD)); exact HO261.out) (Kd.N_base ho23) hb)
          have n5_ := aS (Kd.N_elder' (by (with_reducible repeat (first | apply nA | apply nN | apply nD)); exact HO272.out) (Kd.N_base ho23) hb)
          have n6_ := aS (Kd.N_lower ho23 (below_size (by repeat (first | (with_reducible first | exact HB.out | apply bA | apply bN | apply bD | refine bS ?_ GE249.out) | exact HB.out))))
          have n7_ := aS (blk_below (g := gb249) (o := .cells #[.int .i64 a1_0, .string a1_1, .slice A1_2 l1_2.length c1_2] 25 (0, 0)) (by (with_reducible repeat (first | refine kN ?_ _ | refine kD ?_ | refine kA ?_ _)); exact BK249.out) hb)
          have n8_ := aS (below_step (by repeat (first | (with_reducible first | exact HB.out | apply bA | apply bN | apply bD | refine bS ?_ GE249.out) | exact HB.out)) hb)
          clear HO0
          clear HO1_2
          clear HO254
          clear HO257
          clear HO261
          clear HO272
          clear BK249
          clear HB
          have HO0 := n0_
          have HO1_2 := n1_
          have HO254 := n2_
          have HO257 := n3_
          have HO261 := n4_
          have HO272 := n5_
          have HO266 := n6_
          have BK249 := n7_
          have HB := n8_
          clear n0_ n1_ n2_ n3_ n4_ n5_ n6_ n7_ n8_
          clear hb ho23
          refine hK.out _ _ ⟨(blk_cell BK249.out 0).trans rfl, (blk_cell BK249.out 1).trans rfl, (blk_cell BK249.out 2).trans rfl⟩ (fun hHeld => ?_)
          clear hK K
          refine norm_ (a' := ?_) ?_ ?_
          rotate_left
          ·show Act.put _ (some 31) _ = _
           simp only [Act.put, s1, s2, s3, i64_w, i32_w]
           rfl
          exact norm_ (by first | (simp only [putAll, Act.put, List.setIfInBounds_toArray, List.set_cons_zero, List.set_cons_succ]; done) | (simp only [putAll, Act.put, List.setIfInBounds_toArray, List.set_cons_zero, List.set_cons_succ]; rfl)) (hJ1_2_6 (v265, v271) _ ⟨hHeld, (by (with_reducible repeat (first | apply vA | apply vN | apply vD)); exact Kd.V_mono HO0.out (fun _ hk => ⟨hk.1.1, ⟨hk.1.2.1, ⟨hk.2, ⟨hk.1.2.2.1, hk.1.2.2.2⟩⟩⟩⟩)), (by (with_reducible repeat (first | apply vA | apply vN | apply vD)); exact Kd.V_mono HO1_2.out (fun _ hk => ⟨hk.1.1, ⟨hk.1.2.1, ⟨hk.2, ⟨hk.1.2.2.1, hk.1.2.2.2⟩⟩⟩⟩)), (by (with_reducible repeat (first | apply vA | apply vN | apply vD)); exact Kd.V_mono HO254.out (fun _ hk => ⟨hk.1.1, ⟨hk.1.2.1, ⟨hk.2, ⟨hk.1.2.2.1, hk.1.2.2.2⟩⟩⟩⟩)), (by (with_reducible repeat (first | apply nA | apply nN | apply nD)); exact Kd.N_mono HO257.out (fun _ hk => ⟨hk.1.1, ⟨hk.2, ⟨hk.1.2.1, hk.1.2.2⟩⟩⟩)), (by (with_reducible repeat (first | apply vA | apply vN | apply vD)); exact Kd.V_mono HO261.out (fun _ hk => ⟨hk.1.1, ⟨hk.1.2.1, ⟨hk.2, ⟨hk.1.2.2.1, hk.1.2.2.2⟩⟩⟩⟩)), (by (with_reducible repeat (first | apply nA | apply nN | apply nD)); exact HO266.out), (by (with_reducible repeat (first | apply nA | apply nN | apply nD)); exact Kd.N_mono HO272.out (fun _ hk => ⟨hk.1.1, ⟨hk.1.2.1, ⟨hk.2, hk.1.2.2⟩⟩⟩)), (by (with_reducible repeat (first | refine kN ?_ _ | refine kD ?_ | refine kA ?_ _)); exact BK249.out), (by repeat (first | (with_reducible first | exact HB.out | apply bA | apply bN | apply bD | refine bS ?_ GE249.out) | exact HB.out))⟩)
        ·skip
         rintro v265 w21 ⟨hS_, h0_, h1_, h2_, h3_, h4_, h5_, h6_, h7_⟩
         have n0_ : Aside0 (Kd.V k25 25 w21 w.heap.size (fun k_ => ((P0_ k_ ∨ P1_2_ k_) ∨ w.heap.size ≤ k_) ∧ some k_ ≠ (v256 : Value).ownBlock ∧ some k_ ≠ (v265 : Value).ownBlock ∧ k_ ≠ gb249) (.slice A0 l0.length c0) l0) := ⟨h0_⟩
         have n1_ : Aside0 (Kd.V k99 99 w21 w.heap.size (fun k_ => ((P0_ k_ ∨ P1_2_ k_) ∨ w.heap.size ≤ k_) ∧ some k_ ≠ (v256 : Value).ownBlock ∧ some k_ ≠ (v265 : Value).ownBlock ∧ k_ ≠ gb249) (.slice A1_2 l1_2.length c1_2) l1_2) := ⟨h1_⟩
         have n2_ : Aside0 (Kd.V k25 25 w21 w.heap.size (fun k_ => ((P0_ k_ ∨ P1_2_ k_) ∨ w.heap.size ≤ k_) ∧ some k_ ≠ (v256 : Value).ownBlock ∧ some k_ ≠ (v265 : Value).ownBlock ∧ k_ ≠ gb249) (.slice A0 y250.length c0) y250) := ⟨h2_⟩
         have n3_ : Aside0 (Kd.N k25 25 w21 w.heap.size (fun k_ => ((P0_ k_ ∨ P1_2_ k_) ∨ w.heap.size ≤ k_) ∧ some k_ ≠ (v265 : Value).ownBlock ∧ k_ ≠ gb249) v256 t255) := ⟨h3_⟩
         have n4_ : Aside0 (Kd.V k25 25 w21 w.heap.size (fun k_ => ((P0_ k_ ∨ P1_2_ k_) ∨ w.heap.size ≤ k_) ∧ some k_ ≠ (v256 : Value).ownBlock ∧ some k_ ≠ (v265 : Value).ownBlock ∧ k_ ≠ gb249) v260 t259) := ⟨h4_⟩
         have n5_ : Aside0 (Kd.N k25 25 w21 w.heap.size (fun k_ => ((P0_ k_ ∨ P1_2_ k_) ∨ w.heap.size ≤ k_) ∧ some k_ ≠ (v256 : Value).ownBlock ∧ k_ ≠ gb249) v265 y264) := ⟨h5_⟩
         have n6_ : Aside0 (w21.heap[gb249]? = some (.cells #[.int .i64 a1_0, .string a1_1, .slice A1_2 l1_2.length c1_2] 25 (0, 0))) := ⟨h6_⟩
         have n7_ : Aside0 (Below w.heap.size w w21) := ⟨h7_⟩
         clear HO0
         clear HO1_2
         clear HO254
         clear HO257
         clear HO261
         clear BK249
         clear HB
         clear h0_ h1_ h2_ h3_ h4_ h5_ h6_ h7_
         have HO0 := n0_
         have HO1_2 := n1_
         have HO254 := n2_
         have HO257 := n3_
         have HO261 := n4_
         have HO266 := n5_
         have BK249 := n6_
         have HB := n7_
         clear n0_ n1_ n2_ n3_ n4_ n5_ n6_ n7_
         have hHeld : w21.cell? ⟨gb249, 0, none⟩ = some (.int .i64 a1_0) ∧ w21.cell? ⟨gb249, 1, none⟩ = some (.string a1_1) ∧ w21.cell? ⟨gb249, 2, none⟩ = some (.slice A1_2 l1_2.length c1_2) := hS_
         refine norm_ (a' := ?_) ?_ ?_
         rotate_left
         ·simp only [putAll, Act.put, List.setIfInBounds_toArray, List.set_cons_zero, List.set_cons_succ]
          rfl
         refine two_ (i := 4) (j := 6) (Ni := some 33) (Nj := some 35) #[true, true, true, true, true, true, false, false, false, false, false] #[true, true, true, true, false, true, true, false, false, false, false] rfl rfl rfl rfl (two_of HT_.out (by kernel_rfl)) (by decide) (by decide) (fun K hK => ?_) (fun K hK => ?_)
         ·skip
          refine Kd.N_append_rows_step k25 (w0 := w) w.heap.size (by rfl) (.tmp 31) (.tmp 32) 22 25 (.agg #[(.int .i64 0), (.string ⟨#[]⟩), (.slice none 0 0)]) 48 rfl Try.underlying22 info25 rfl (by decide) (by omega) v265 y264 y250 _ _ _ (fun k_ => ((P0_ k_ ∨ P1_2_ k_) ∨ w.heap.size ≤ k_) ∧ some k_ ≠ (v256 : Value).ownBlock ∧ k_ ≠ gb249) (fun k_ => ((fun k_ => ((P0_ k_ ∨ P1_2_ k_) ∨ w.heap.size ≤ k_) ∧ some k_ ≠ (v256 : Value).ownBlock ∧ k_ ≠ gb249)) k_ ∧ some k_ ≠ (v265 : Value).ownBlock) rfl rfl ?aO ?aR (fun _ hk => hk) ?aF ?aB ?aS ?aL ?_
          (case aR => exact (by skip; exact Kd.V_F (Kd.V_mono (ok' := (fun k_ => ((fun k_ => ((P0_ k_ ∨ P1_2_ k_) ∨ w.heap.size ≤ k_) ∧ some k_ ≠ (v256 : Value).ownBlock ∧ k_ ≠ gb249)) k_ ∧ some k_ ≠ (v265 : Value).ownBlock)) (HO254.out) (fun k_ hk => ⟨⟨hk.1, ⟨hk.2.1, hk.2.2.2⟩⟩, hk.2.2.1⟩))))
          (case aB => exact (by repeat (first | (with_reducible first | exact HB.out | apply bA | apply bN | apply bD | refine bS ?_ GE249.out) | exact HB.out)))
          (case aF => exact (fun k_ hk => ⟨(.inr (Nat.le_trans (below_size (by repeat (first | (with_reducible first | exact HB.out | apply bA | apply bN | apply bD | refine bS ?_ GE249.out) | exact HB.out))) hk)), Kd.fresh' (Kd.N_lt (by (with_reducible repeat (first | apply nA | apply nN | apply nD)); exact HO257.out)) k_ hk, Kd.freshB (g := gb249) (o := .cells #[.int .i64 a1_0, .string a1_1, .slice A1_2 l1_2.length c1_2] 25 (0, 0)) (by (with_reducible repeat (first | refine kN ?_ _ | refine kD ?_ | refine kA ?_ _)); exact BK249.out) k_ hk⟩))
          (case aO => exact (by (with_reducible repeat (first | apply nA | apply nN | apply nD)); exact HO266.out))
          (case aS => exact (below_size (by repeat (first | (with_reducible first | exact HB.out | apply bA | apply bN | apply bD | refine bS ?_ GE249.out) | exact HB.out))))
          (case aL => have := LMc9.out; omega)
          intro v268 w22 ho hb hg hat
          rw [← Ny267.out] at ho
          have n0_ := aS (Kd.V_afterv (ok := (fun k_ => ((P0_ k_ ∨ P1_2_ k_) ∨ w.heap.size ≤ k_) ∧ some k_ ≠ (v256 : Value).ownBlock ∧ k_ ≠ gb249)) (by (with_reducible repeat (first | apply vA | apply vN | apply vD)); exact Kd.V_mono HO0.out (fun _ hk => ⟨⟨hk.1, ⟨hk.2.1, hk.2.2.2⟩⟩, hk.2.2.1⟩)) hg hat)
          have n1_ := aS (Kd.V_afterv (ok := (fun k_ => ((P0_ k_ ∨ P1_2_ k_) ∨ w.heap.size ≤ k_) ∧ some k_ ≠ (v256 : Value).ownBlock ∧ k_ ≠ gb249)) (by (with_reducible repeat (first | apply vA | apply vN | apply vD)); exact Kd.V_mono HO1_2.out (fun _ hk => ⟨⟨hk.1, ⟨hk.2.1, hk.2.2.2⟩⟩, hk.2.2.1⟩)) hg hat)
          have n2_ := aS (blk_grown (g := gb249) (o := .cells #[.int .i64 a1_0, .string a1_1, .slice A1_2 l1_2.length c1_2] 25 (0, 0)) (by (with_reducible repeat (first | refine kN ?_ _ | refine kD ?_ | refine kA ?_ _)); exact BK249.out) hg (Kd.N_away HO266.out (fun _ hk => hk.2.2)))
          have n3_ := aS (Kd.V_afterv (ok := (fun k_ => ((P0_ k_ ∨ P1_2_ k_) ∨ w.heap.size ≤ k_) ∧ some k_ ≠ (v256 : Value).ownBlock ∧ k_ ≠ gb249)) (by (with_reducible repeat (first | apply vA | apply vN | apply vD)); exact Kd.V_mono HO254.out (fun _ hk => ⟨⟨hk.1, ⟨hk.2.1, hk.2.2.2⟩⟩, hk.2.2.1⟩)) hg hat)
          have n4_ := aS (Kd.N_afterv (ok := (fun k_ => ((P0_ k_ ∨ P1_2_ k_) ∨ w.heap.size ≤ k_) ∧ k_ ≠ gb249)) (by (with_reducible repeat (first | apply nA | apply nN | apply nD)); exact Kd.N_mono HO257.out (fun _ hk => ⟨⟨hk.1, hk.2.2⟩, hk.2.1⟩)) hg hat)
          have n5_ := aS (Kd.V_afterv (ok := (fun k_ => ((P0_ k_ ∨ P1_2_ k_) ∨ w.heap.size ≤ k_) ∧ some k_ ≠ (v256 : Value).ownBlock ∧ k_ ≠ gb249)) (by (with_reducible repeat (first | apply vA | apply vN | apply vD)); exact Kd.V_mono HO261.out (fun _ hk => ⟨⟨hk.1, ⟨hk.2.1, hk.2.2.2⟩⟩, hk.2.2.1⟩)) hg hat)
          have n6_ := aS (hb)
          have n7_ := aS (ho)
          clear HO0
          clear HO1_2
          clear BK249
          clear HO254
          clear HO257
          clear HO261
          clear HB
          clear HO266
          have HO0 := n0_
          have HO1_2 := n1_
          have BK249 := n2_
          have HO254 := n3_
          have HO257 := n4_
          have HO261 := n5_
          have HB := n6_
          have HO269 := n7_
          clear n0_ n1_ n2_ n3_ n4_ n5_ n6_ n7_
          clear ho hb hg hat
          refine hK.out _ _ ⟨(blk_cell BK249.out 0).trans rfl, (blk_cell BK249.out 1).trans rfl, (blk_cell BK249.out 2).trans rfl⟩ (fun hHeld => ?_)
          clear hK K
          refine norm_ (a' := ?_) ?_ ?_
          rotate_left
          ·show Act.put _ (some 33) _ = _
           simp only [Act.put, s1, s2, s3, i64_w, i32_w]
           rfl
          exact norm_ (by first | (simp only [putAll, Act.put, List.setIfInBounds_toArray, List.set_cons_zero, List.set_cons_succ]; done) | (simp only [putAll, Act.put, List.setIfInBounds_toArray, List.set_cons_zero, List.set_cons_succ]; rfl)) (hJ1_2_4 (v265, v268) _ ⟨hHeld, (by (with_reducible repeat (first | apply vA | apply vN | apply vD)); exact Kd.V_mono HO0.out (fun _ hk => ⟨hk.1.1, ⟨hk.1.2.1, ⟨hk.2, hk.1.2.2⟩⟩⟩)), (by (with_reducible repeat (first | apply vA | apply vN | apply vD)); exact Kd.V_mono HO1_2.out (fun _ hk => ⟨hk.1.1, ⟨hk.1.2.1, ⟨hk.2, hk.1.2.2⟩⟩⟩)), (by (with_reducible repeat (first | apply vA | apply vN | apply vD)); exact Kd.V_mono HO254.out (fun _ hk => ⟨hk.1.1, ⟨hk.1.2.1, ⟨hk.2, hk.1.2.2⟩⟩⟩)), (by (with_reducible repeat (first | apply nA | apply nN | apply nD)); exact Kd.N_mono HO257.out (fun _ hk => ⟨hk.1.1, ⟨hk.2, hk.1.2⟩⟩)), (by (with_reducible repeat (first | apply vA | apply vN | apply vD)); exact Kd.V_mono HO261.out (fun _ hk => ⟨hk.1.1, ⟨hk.1.2.1, ⟨hk.2, hk.1.2.2⟩⟩⟩)), (by (with_reducible repeat (first | apply nA | apply nN | apply nD)); exact HO269.out), (by (with_reducible repeat (first | refine kN ?_ _ | refine kD ?_ | refine kA ?_ _)); exact BK249.out), (by repeat (first | (with_reducible first | exact HB.out | apply bA | apply bN | apply bD | refine bS ?_ GE249.out) | exact HB.out))⟩)
         ·skip
          refine Kd.N_lit_step k25 _ 25 ?hg (N' := 35) ?hd (xs := ([(⟨a1_0, a1_1, l1_2⟩ : S25)] : List (S25))) (inner := [.int .i64 a1_0, .string a1_1, .slice A1_2 l1_2.length c1_2]) (ok := (fun k_ => ((P0_ k_ ∨ P1_2_ k_) ∨ w.heap.size ≤ k_) ∧ some k_ ≠ (v256 : Value).ownBlock ∧ some k_ ≠ (v265 : Value).ownBlock ∧ k_ ≠ gb249)) (okp := (fun k_ => ((P0_ k_ ∨ P1_2_ k_) ∨ w.heap.size ≤ k_) ∧ some k_ ≠ (v256 : Value).ownBlock ∧ some k_ ≠ (v265 : Value).ownBlock ∧ k_ ≠ gb249)) ?hr ?hp (fun _ hk => hk) ((show ∀ k_, w21.heap.size ≤ k_ → (fun k_ => ((P0_ k_ ∨ P1_2_ k_) ∨ w.heap.size ≤ k_) ∧ some k_ ≠ (v256 : Value).ownBlock ∧ some k_ ≠ (v265 : Value).ownBlock ∧ k_ ≠ gb249) k_ from fun k_ hk => ⟨(.inr (Nat.le_trans (below_size (by repeat (first | (with_reducible first | exact HB.out | apply bA | apply bN | apply bD | refine bS ?_ GE249.out) | exact HB.out))) hk)), Kd.fresh' (Kd.N_lt (by (with_reducible repeat (first | apply nA | apply nN | apply nD)); exact HO257.out)) k_ hk, Kd.fresh' (Kd.N_lt (by (with_reducible repeat (first | apply nA | apply nN | apply nD)); exact HO266.out)) k_ hk, Kd.freshB (g := gb249) (o := .cells #[.int .i64 a1_0, .string a1_1, .slice A1_2 l1_2.length c1_2] 25 (0, 0)) (by (with_reducible repeat (first | refine kN ?_ _ | refine kD ?_ | refine kA ?_ _)); exact BK249.out) k_ hk⟩) _ (by first | exact Nat.le_refl _ | simp)) (Below.refl _ _) (Nat.le_refl _) (by simp) ?_; (case hd => rfl); (case hg => rfl); (case hr => first | (go_simp; done) | (go_simp; rfl)); (case hp => exact (Reps.c3 (show Kd.FK k25 _ _ (⟨a1_0, a1_1, l1_2⟩ : S25) [.int .i64 a1_0, .string a1_1, .slice A1_2 l1_2.length c1_2] from (k25_mkFV _ _ (⟨a1_0, a1_1, l1_2⟩ : S25) (Kd.V_mono (ok' := (fun k_ => ((P0_ k_ ∨ P1_2_ k_) ∨ w.heap.size ≤ k_) ∧ some k_ ≠ (v256 : Value).ownBlock ∧ some k_ ≠ (v265 : Value).ownBlock ∧ k_ ≠ gb249)) (HO1_2.out) (fun k_ hk => ⟨hk.1, ⟨hk.2.1, ⟨hk.2.2.1, hk.2.2.2⟩⟩⟩)))) (Reps.none _ _)))
          intro v271 w22 ho23 hb hg_ hnew_
          clear hg_ hnew_
          (first | rw [← Ny270.out] at ho23 | (simp only [Int.reduceToNat] at ho23; rw [← Ny270.out] at ho23))
          have n0_ := aS (Kd.V_elder' (by (with_reducible repeat (first | apply vA | apply vN | apply vD)); exact HO0.out) (Kd.N_base ho23) hb)
          have n1_ := aS (Kd.V_elder' (by (with_reducible repeat (first | apply vA | apply vN | apply vD)); exact HO1_2.out) (Kd.N_base ho23) hb)
          have n2_ := aS (Kd.V_elder' (by (with_reducible repeat (first | apply vA | apply vN | apply vD)); exact HO254.out) (Kd.N_base ho23) hb)
          have n3_ := aS (Kd.N_elder' (by (with_reducible repeat (first | apply nA | apply nN | apply nD)); exact HO257.out) (Kd.N_base ho23) hb)
          have n4_ := aS (Kd.V_elder' (by (with_reducible repeat (first | apply vA | apply vN | apply vD)); exact HO261.out) (Kd.N_base ho23) hb)
          have n5_ := aS (Kd.N_elder' (by (with_reducible repeat (first | apply nA | apply nN | apply nD)); exact HO266.out) (Kd.N_base ho23) hb)
          have n6_ := aS (Kd.N_lower ho23 (below_size (by repeat (first | (with_reducible first | exact HB.out | apply bA | apply bN | apply bD | refine bS ?_ GE249.out) | exact HB.out))))
          have n7_ := aS (blk_below (g := gb249) (o := .cells #[.int .i64 a1_0, .string a1_1, .slice A1_2 l1_2.length c1_2] 25 (0, 0)) (by (with_reducible repeat (first | refine kN ?_ _ | refine kD ?_ | refine kA ?_ _)); exact BK249.out) hb)
          have n8_ := aS (below_step (by repeat (first | (with_reducible first | exact HB.out | apply bA | apply bN | apply bD | refine bS ?_ GE249.out) | exact HB.out)) hb)
          clear HO0
          clear HO1_2
          clear HO254
          clear HO257
          clear HO261
          clear HO266
          clear BK249
          clear HB
          have HO0 := n0_
          have HO1_2 := n1_
          have HO254 := n2_
          have HO257 := n3_
          have HO261 := n4_
          have HO266 := n5_
          have HO272 := n6_
          have BK249 := n7_
          have HB := n8_
          clear n0_ n1_ n2_ n3_ n4_ n5_ n6_ n7_ n8_
          clear hb ho23
          refine hK.out _ _ ⟨(blk_cell BK249.out 0).trans rfl, (blk_cell BK249.out 1).trans rfl, (blk_cell BK249.out 2).trans rfl⟩ (fun hHeld => ?_)
          clear hK K
          refine norm_ (a' := ?_) ?_ ?_
          rotate_left
          ·show Act.put _ (some 35) _ = _
           simp only [Act.put, s1, s2, s3, i64_w, i32_w]
           rfl
          exact norm_ (by first | (simp only [putAll, Act.put, List.setIfInBounds_toArray, List.set_cons_zero, List.set_cons_succ]; done) | (simp only [putAll, Act.put, List.setIfInBounds_toArray, List.set_cons_zero, List.set_cons_succ]; rfl)) (hJ1_2_6 (v265, v271) _ ⟨hHeld, (by (with_reducible repeat (first | apply vA | apply vN | apply vD)); exact Kd.V_mono HO0.out (fun _ hk => ⟨hk.1.1, ⟨hk.1.2.1, ⟨hk.1.2.2.1, ⟨hk.2, hk.1.2.2.2⟩⟩⟩⟩)), (by (with_reducible repeat (first | apply vA | apply vN | apply vD)); exact Kd.V_mono HO1_2.out (fun _ hk => ⟨hk.1.1, ⟨hk.1.2.1, ⟨hk.1.2.2.1, ⟨hk.2, hk.1.2.2.2⟩⟩⟩⟩)), (by (with_reducible repeat (first | apply vA | apply vN | apply vD)); exact Kd.V_mono HO254.out (fun _ hk => ⟨hk.1.1, ⟨hk.1.2.1, ⟨hk.1.2.2.1, ⟨hk.2, hk.1.2.2.2⟩⟩⟩⟩)), (by (with_reducible repeat (first | apply nA | apply nN | apply nD)); exact Kd.N_mono HO257.out (fun _ hk => ⟨hk.1.1, ⟨hk.1.2.1, ⟨hk.2, hk.1.2.2⟩⟩⟩)), (by (with_reducible repeat (first | apply vA | apply vN | apply vD)); exact Kd.V_mono HO261.out (fun _ hk => ⟨hk.1.1, ⟨hk.1.2.1, ⟨hk.1.2.2.1, ⟨hk.2, hk.1.2.2.2⟩⟩⟩⟩)), (by (with_reducible repeat (first | apply nA | apply nN | apply nD)); exact Kd.N_mono HO266.out (fun _ hk => ⟨hk.1.1, ⟨hk.1.2.1, ⟨hk.2, hk.1.2.2⟩⟩⟩)), (by (with_reducible repeat (first | apply nA | apply nN | apply nD)); exact HO272.out), (by (with_reducible repeat (first | refine kN ?_ _ | refine kD ?_ | refine kA ?_ _)); exact BK249.out), (by repeat (first | (with_reducible first | exact HB.out | apply bA | apply bN | apply bD | refine bS ?_ GE249.out) | exact HB.out))⟩)
       ·skip
        rintro ⟨v265, v271⟩ w23 ⟨hS_, h0_, h1_, h2_, h3_, h4_, h5_, h6_, h7_, h8_⟩
        have n0_ : Aside0 (Kd.V k25 25 w23 w.heap.size (fun k_ => ((P0_ k_ ∨ P1_2_ k_) ∨ w.heap.size ≤ k_) ∧ some k_ ≠ (v256 : Value).ownBlock ∧ some k_ ≠ (v265 : Value).ownBlock ∧ some k_ ≠ (v271 : Value).ownBlock ∧ k_ ≠ gb249) (.slice A0 l0.length c0) l0) := ⟨h0_⟩
        have n1_ : Aside0 (Kd.V k99 99 w23 w.heap.size (fun k_ => ((P0_ k_ ∨ P1_2_ k_) ∨ w.heap.size ≤ k_) ∧ some k_ ≠ (v256 : Value).ownBlock ∧ some k_ ≠ (v265 : Value).ownBlock ∧ some k_ ≠ (v271 : Value).ownBlock ∧ k_ ≠ gb249) (.slice A1_2 l1_2.length c1_2) l1_2) := ⟨h1_⟩
        have n2_ : Aside0 (Kd.V k25 25 w23 w.heap.size (fun k_ => ((P0_ k_ ∨ P1_2_ k_) ∨ w.heap.size ≤ k_) ∧ some k_ ≠ (v256 : Value).ownBlock ∧ some k_ ≠ (v265 : Value).ownBlock ∧ some k_ ≠ (v271 : Value).ownBlock ∧ k_ ≠ gb249) (.slice A0 y250.length c0) y250) := ⟨h2_⟩
        have n3_ : Aside0 (Kd.N k25 25 w23 w.heap.size (fun k_ => ((P0_ k_ ∨ P1_2_ k_) ∨ w.heap.size ≤ k_) ∧ some k_ ≠ (v265 : Value).ownBlock ∧ some k_ ≠ (v271 : Value).ownBlock ∧ k_ ≠ gb249) v256 t255) := ⟨h3_⟩
        have n4_ : Aside0 (Kd.V k25 25 w23 w.heap.size (fun k_ => ((P0_ k_ ∨ P1_2_ k_) ∨ w.heap.size ≤ k_) ∧ some k_ ≠ (v256 : Value).ownBlock ∧ some k_ ≠ (v265 : Value).ownBlock ∧ some k_ ≠ (v271 : Value).ownBlock ∧ k_ ≠ gb249) v260 t259) := ⟨h4_⟩
        have n5_ : Aside0 (Kd.N k25 25 w23 w.heap.size (fun k_ => ((P0_ k_ ∨ P1_2_ k_) ∨ w.heap.size ≤ k_) ∧ some k_ ≠ (v256 : Value).ownBlock ∧ some k_ ≠ (v271 : Value).ownBlock ∧ k_ ≠ gb249) v265 y264) := ⟨h5_⟩
        have n6_ : Aside0 (Kd.N k25 25 w23 w.heap.size (fun k_ => ((P0_ k_ ∨ P1_2_ k_) ∨ w.heap.size ≤ k_) ∧ some k_ ≠ (v256 : Value).ownBlock ∧ some k_ ≠ (v265 : Value).ownBlock ∧ k_ ≠ gb249) v271 y270) := ⟨h6_⟩
        have n7_ : Aside0 (w23.heap[gb249]? = some (.cells #[.int .i64 a1_0, .string a1_1, .slice A1_2 l1_2.length c1_2] 25 (0, 0))) := ⟨h7_⟩
        have n8_ : Aside0 (Below w.heap.size w w23) := ⟨h8_⟩
        clear HO0
        clear HO1_2
        clear HO254
        clear HO257
        clear HO261
        clear BK249
        clear HB
        clear h0_ h1_ h2_ h3_ h4_ h5_ h6_ h7_ h8_
        have HO0 := n0_
        have HO1_2 := n1_
        have HO254 := n2_
        have HO257 := n3_
        have HO261 := n4_
        have HO266 := n5_
        have HO272 := n6_
        have BK249 := n7_
        have HB := n8_
        clear n0_ n1_ n2_ n3_ n4_ n5_ n6_ n7_ n8_
        have hHeld : w23.cell? ⟨gb249, 0, none⟩ = some (.int .i64 a1_0) ∧ w23.cell? ⟨gb249, 1, none⟩ = some (.string a1_1) ∧ w23.cell? ⟨gb249, 2, none⟩ = some (.slice A1_2 l1_2.length c1_2) := hS_
        refine norm_ (a' := ?_) ?_ ?_
        rotate_left
        ·simp only [putAll, Act.put, List.setIfInBounds_toArray, List.set_cons_zero, List.set_cons_succ]
         rfl
        refine one_ (i := 4) (N := some 33) #[true, true, true, true, true, true, true, false, false, false, false] rfl rfl (one_of HT_.out (by kernel_rfl)) (by decide) (fun K hK => ?_)
        refine Kd.N_append_rows_step k25 (w0 := w) w.heap.size (by rfl) (.tmp 31) (.tmp 32) 22 25 (.agg #[(.int .i64 0), (.string ⟨#[]⟩), (.slice none 0 0)]) 48 rfl Try.underlying22 info25 rfl (by decide) (by omega) v265 y264 y250 _ _ _ (fun k_ => ((P0_ k_ ∨ P1_2_ k_) ∨ w.heap.size ≤ k_) ∧ some k_ ≠ (v256 : Value).ownBlock ∧ some k_ ≠ (v271 : Value).ownBlock ∧ k_ ≠ gb249) (fun k_ => ((fun k_ => ((P0_ k_ ∨ P1_2_ k_) ∨ w.heap.size ≤ k_) ∧ some k_ ≠ (v256 : Value).ownBlock ∧ some k_ ≠ (v271 : Value).ownBlock ∧ k_ ≠ gb249)) k_ ∧ some k_ ≠ (v265 : Value).ownBlock) rfl rfl ?aO ?aR (fun _ hk => hk) ?aF ?aB ?aS ?aL ?_
        (case aR => exact (by skip; exact Kd.V_F (Kd.V_mono (ok' := (fun k_ => ((fun k_ => ((P0_ k_ ∨ P1_2_ k_) ∨ w.heap.size ≤ k_) ∧ some k_ ≠ (v256 : Value).ownBlock ∧ some k_ ≠ (v271 : Value).ownBlock ∧ k_ ≠ gb249)) k_ ∧ some k_ ≠ (v265 : Value).ownBlock)) (HO254.out) (fun k_ hk => ⟨⟨hk.1, ⟨hk.2.1, ⟨hk.2.2.2.1, hk.2.2.2.2⟩⟩⟩, hk.2.2.1⟩))))
        (case aB => exact (by repeat (first | (with_reducible first | exact HB.out | apply bA | apply bN | apply bD | refine bS ?_ GE249.out) | exact HB.out)))
        (case aF => exact (fun k_ hk => ⟨(.inr (Nat.le_trans (below_size (by repeat (first | (with_reducible first | exact HB.out | apply bA | apply bN | apply bD | refine bS ?_ GE249.out) | exact HB.out))) hk)), Kd.fresh' (Kd.N_lt (by (with_reducible repeat (first | apply nA | apply nN | apply nD)); exact HO257.out)) k_ hk, Kd.fresh' (Kd.N_lt (by (with_reducible repeat (first | apply nA | apply nN | apply nD)); exact HO272.out)) k_ hk, Kd.freshB (g := gb249) (o := .cells #[.int .i64 a1_0, .string a1_1, .slice A1_2 l1_2.length c1_2] 25 (0, 0)) (by (with_reducible repeat (first | refine kN ?_ _ | refine kD ?_ | refine kA ?_ _)); exact BK249.out) k_ hk⟩))
        (case aO => exact (by (with_reducible repeat (first | apply nA | apply nN | apply nD)); exact HO266.out))
        (case aS => exact (below_size (by repeat (first | (with_reducible first | exact HB.out | apply bA | apply bN | apply bD | refine bS ?_ GE249.out) | exact HB.out))))
        (case aL => have := LMc9.out; omega)
        intro v268 w24 ho hb hg hat
        rw [← Ny267.out] at ho
        have n0_ := aS (Kd.V_afterv (ok := (fun k_ => ((P0_ k_ ∨ P1_2_ k_) ∨ w.heap.size ≤ k_) ∧ some k_ ≠ (v256 : Value).ownBlock ∧ some k_ ≠ (v271 : Value).ownBlock ∧ k_ ≠ gb249)) (by (with_reducible repeat (first | apply vA | apply vN | apply vD)); exact Kd.V_mono HO0.out (fun _ hk => ⟨⟨hk.1, ⟨hk.2.1, ⟨hk.2.2.2.1, hk.2.2.2.2⟩⟩⟩, hk.2.2.1⟩)) hg hat)
        have n1_ := aS (Kd.V_afterv (ok := (fun k_ => ((P0_ k_ ∨ P1_2_ k_) ∨ w.heap.size ≤ k_) ∧ some k_ ≠ (v256 : Value).ownBlock ∧ some k_ ≠ (v271 : Value).ownBlock ∧ k_ ≠ gb249)) (by (with_reducible repeat (first | apply vA | apply vN | apply vD)); exact Kd.V_mono HO1_2.out (fun _ hk => ⟨⟨hk.1, ⟨hk.2.1, ⟨hk.2.2.2.1, hk.2.2.2.2⟩⟩⟩, hk.2.2.1⟩)) hg hat)
        have n2_ := aS (blk_grown (g := gb249) (o := .cells #[.int .i64 a1_0, .string a1_1, .slice A1_2 l1_2.length c1_2] 25 (0, 0)) (by (with_reducible repeat (first | refine kN ?_ _ | refine kD ?_ | refine kA ?_ _)); exact BK249.out) hg (Kd.N_away HO266.out (fun _ hk => hk.2.2.2)))
        have n3_ := aS (Kd.V_afterv (ok := (fun k_ => ((P0_ k_ ∨ P1_2_ k_) ∨ w.heap.size ≤ k_) ∧ some k_ ≠ (v256 : Value).ownBlock ∧ some k_ ≠ (v271 : Value).ownBlock ∧ k_ ≠ gb249)) (by (with_reducible repeat (first | apply vA | apply vN | apply vD)); exact Kd.V_mono HO254.out (fun _ hk => ⟨⟨hk.1, ⟨hk.2.1, ⟨hk.2.2.2.1, hk.2.2.2.2⟩⟩⟩, hk.2.2.1⟩)) hg hat)
        have n4_ := aS (Kd.N_afterv (ok := (fun k_ => ((P0_ k_ ∨ P1_2_ k_) ∨ w.heap.size ≤ k_) ∧ some k_ ≠ (v271 : Value).ownBlock ∧ k_ ≠ gb249)) (by (with_reducible repeat (first | apply nA | apply nN | apply nD)); exact Kd.N_mono HO257.out (fun _ hk => ⟨⟨hk.1, ⟨hk.2.2.1, hk.2.2.2⟩⟩, hk.2.1⟩)) hg hat)
        have n5_ := aS (Kd.V_afterv (ok := (fun k_ => ((P0_ k_ ∨ P1_2_ k_) ∨ w.heap.size ≤ k_) ∧ some k_ ≠ (v256 : Value).ownBlock ∧ some k_ ≠ (v271 : Value).ownBlock ∧ k_ ≠ gb249)) (by (with_reducible repeat (first | apply vA | apply vN | apply vD)); exact Kd.V_mono HO261.out (fun _ hk => ⟨⟨hk.1, ⟨hk.2.1, ⟨hk.2.2.2.1, hk.2.2.2.2⟩⟩⟩, hk.2.2.1⟩)) hg hat)
        have n6_ := aS (Kd.N_afterv (ok := (fun k_ => ((P0_ k_ ∨ P1_2_ k_) ∨ w.heap.size ≤ k_) ∧ some k_ ≠ (v256 : Value).ownBlock ∧ k_ ≠ gb249)) (by (with_reducible repeat (first | apply nA | apply nN | apply nD)); exact Kd.N_mono HO272.out (fun _ hk => ⟨⟨hk.1, ⟨hk.2.1, hk.2.2.2⟩⟩, hk.2.2.1⟩)) hg hat)
        have n7_ := aS (hb)
        have n8_ := aS (ho)
        clear HO0
        clear HO1_2
        clear BK249
        clear HO254
        clear HO257
        clear HO261
        clear HO272
        clear HB
        clear HO266
        have HO0 := n0_
        have HO1_2 := n1_
        have BK249 := n2_
        have HO254 := n3_
        have HO257 := n4_
        have HO261 := n5_
        have HO272 := n6_
        have HB := n7_
        have HO269 := n8_
        clear n0_ n1_ n2_ n3_ n4_ n5_ n6_ n7_ n8_
        clear ho hb hg hat
        refine hK.out _ _ ⟨(blk_cell BK249.out 0).trans rfl, (blk_cell BK249.out 1).trans rfl, (blk_cell BK249.out 2).trans rfl⟩ (fun hHeld => ?_)
        clear hK K
        refine norm_ (a' := ?_) ?_ ?_
        rotate_left
        ·show Act.put _ (some 33) _ = _
         simp only [Act.put, s1, s2, s3, i64_w, i32_w]
         rfl
        exact norm_ (by first | (simp only [putAll, Act.put, List.setIfInBounds_toArray, List.set_cons_zero, List.set_cons_succ]; done) | (simp only [putAll, Act.put, List.setIfInBounds_toArray, List.set_cons_zero, List.set_cons_succ]; rfl)) (hJ1_2_4_6 (v265, v268, v271) _ ⟨hHeld, (by (with_reducible repeat (first | apply vA | apply vN | apply vD)); exact Kd.V_mono HO0.out (fun _ hk => ⟨hk.1.1, ⟨hk.1.2.1, ⟨hk.2, ⟨hk.1.2.2.1, hk.1.2.2.2⟩⟩⟩⟩)), (by (with_reducible repeat (first | apply vA | apply vN | apply vD)); exact Kd.V_mono HO1_2.out (fun _ hk => ⟨hk.1.1, ⟨hk.1.2.1, ⟨hk.2, ⟨hk.1.2.2.1, hk.1.2.2.2⟩⟩⟩⟩)), (by (with_reducible repeat (first | apply vA | apply vN | apply vD)); exact Kd.V_mono HO254.out (fun _ hk => ⟨hk.1.1, ⟨hk.1.2.1, ⟨hk.2, ⟨hk.1.2.2.1, hk.1.2.2.2⟩⟩⟩⟩)), (by (with_reducible repeat (first | apply nA | apply nN | apply nD)); exact Kd.N_mono HO257.out (fun _ hk => ⟨hk.1.1, ⟨hk.2, ⟨hk.1.2.1, hk.1.2.2⟩⟩⟩)), (by (with_reducible repeat (first | apply vA | apply vN | apply vD)); exact Kd.V_mono HO261.out (fun _ hk => ⟨hk.1.1, ⟨hk.1.2.1, ⟨hk.2, ⟨hk.1.2.2.1, hk.1.2.2.2⟩⟩⟩⟩)), (by (with_reducible repeat (first | apply nA | apply nN | apply nD)); exact HO269.out), (by (with_reducible repeat (first | apply nA | apply nN | apply nD)); exact Kd.N_mono HO272.out (fun _ hk => ⟨hk.1.1, ⟨hk.1.2.1, ⟨hk.2, hk.1.2.2⟩⟩⟩)), (by (with_reducible repeat (first | refine kN ?_ _ | refine kD ?_ | refine kA ?_ _)); exact BK249.out), (by repeat (first | (with_reducible first | exact HB.out | apply bA | apply bN | apply bD | refine bS ?_ GE249.out) | exact HB.out))⟩)
      ·skip
       rintro ⟨v265, v268⟩ w22 ⟨hS_, h0_, h1_, h2_, h3_, h4_, h5_, h6_, h7_⟩
       have n0_ : Aside0 (Kd.V k25 25 w22 w.heap.size (fun k_ => ((P0_ k_ ∨ P1_2_ k_) ∨ w.heap.size ≤ k_) ∧ some k_ ≠ (v256 : Value).ownBlock ∧ some k_ ≠ (v268 : Value).ownBlock ∧ k_ ≠ gb249) (.slice A0 l0.length c0) l0) := ⟨h0_⟩
       have n1_ : Aside0 (Kd.V k99 99 w22 w.heap.size (fun k_ => ((P0_ k_ ∨ P1_2_ k_) ∨ w.heap.size ≤ k_) ∧ some k_ ≠ (v256 : Value).ownBlock ∧ some k_ ≠ (v268 : Value).ownBlock ∧ k_ ≠ gb249) (.slice A1_2 l1_2.length c1_2) l1_2) := ⟨h1_⟩
       have n2_ : Aside0 (Kd.V k25 25 w22 w.heap.size (fun k_ => ((P0_ k_ ∨ P1_2_ k_) ∨ w.heap.size ≤ k_) ∧ some k_ ≠ (v256 : Value).ownBlock ∧ some k_ ≠ (v268 : Value).ownBlock ∧ k_ ≠ gb249) (.slice A0 y250.length c0) y250) := ⟨h2_⟩
       have n3_ : Aside0 (Kd.N k25 25 w22 w.heap.size (fun k_ => ((P0_ k_ ∨ P1_2_ k_) ∨ w.heap.size ≤ k_) ∧ some k_ ≠ (v268 : Value).ownBlock ∧ k_ ≠ gb249) v256 t255) := ⟨h3_⟩
       have n4_ : Aside0 (Kd.V k25 25 w22 w.heap.size (fun k_ => ((P0_ k_ ∨ P1_2_ k_) ∨ w.heap.size ≤ k_) ∧ some k_ ≠ (v256 : Value).ownBlock ∧ some k_ ≠ (v268 : Value).ownBlock ∧ k_ ≠ gb249) v260 t259) := ⟨h4_⟩
       have n5_ : Aside0 (Kd.N k25 25 w22 w.heap.size (fun k_ => ((P0_ k_ ∨ P1_2_ k_) ∨ w.heap.size ≤ k_) ∧ some k_ ≠ (v256 : Value).ownBlock ∧ k_ ≠ gb249) v268 y267) := ⟨h5_⟩
       have n6_ : Aside0 (w22.heap[gb249]? = some (.cells #[.int .i64 a1_0, .string a1_1, .slice A1_2 l1_2.length c1_2] 25 (0, 0))) := ⟨h6_⟩
       have n7_ : Aside0 (Below w.heap.size w w22) := ⟨h7_⟩
       clear HO0
       clear HO1_2
       clear HO254
       clear HO257
       clear HO261
       clear BK249
       clear HB
       clear h0_ h1_ h2_ h3_ h4_ h5_ h6_ h7_
       have HO0 := n0_
       have HO1_2 := n1_
       have HO254 := n2_
       have HO257 := n3_
       have HO261 := n4_
       have HO269 := n5_
       have BK249 := n6_
       have HB := n7_
       clear n0_ n1_ n2_ n3_ n4_ n5_ n6_ n7_
       have hHeld : w22.cell? ⟨gb249, 0, none⟩ = some (.int .i64 a1_0) ∧ w22.cell? ⟨gb249, 1, none⟩ = some (.string a1_1) ∧ w22.cell? ⟨gb249, 2, none⟩ = some (.slice A1_2 l1_2.length c1_2) := hS_
       refine norm_ (a' := ?_) ?_ ?_
       rotate_left
       ·simp only [putAll, Act.put, List.setIfInBounds_toArray, List.set_cons_zero, List.set_cons_succ]
        rfl
       refine one_ (i := 6) (N := some 35) #[true, true, true, true, true, true, true, false, false, false, false] rfl rfl (one_of HT_.out (by kernel_rfl)) (by decide) (fun K hK => ?_)
       refine Kd.N_lit_step k25 _ 25 ?hg (N' := 35) ?hd (xs := ([(⟨a1_0, a1_1, l1_2⟩ : S25)] : List (S25))) (inner := [.int .i64 a1_0, .string a1_1, .slice A1_2 l1_2.length c1_2]) (ok := (fun k_ => ((P0_ k_ ∨ P1_2_ k_) ∨ w.heap.size ≤ k_) ∧ some k_ ≠ (v256 : Value).ownBlock ∧ some k_ ≠ (v268 : Value).ownBlock ∧ k_ ≠ gb249)) (okp := (fun k_ => ((P0_ k_ ∨ P1_2_ k_) ∨ w.heap.size ≤ k_) ∧ some k_ ≠ (v256 : Value).ownBlock ∧ some k_ ≠ (v268 : Value).ownBlock ∧ k_ ≠ gb249)) ?hr ?hp (fun _ hk => hk) ((show ∀ k_, w22.heap.size ≤ k_ → (fun k_ => ((P0_ k_ ∨ P1_2_ k_) ∨ w.heap.size ≤ k_) ∧ some k_ ≠ (v256 : Value).ownBlock ∧ some k_ ≠ (v268 : Value).ownBlock ∧ k_ ≠ gb249) k_ from fun k_ hk => ⟨(.inr (Nat.le_trans (below_size (by repeat (first | (with_reducible first | exact HB.out | apply bA | apply bN | apply bD | refine bS ?_ GE249.out) | exact HB.out))) hk)), Kd.fresh' (Kd.N_lt (by (with_reducible repeat (first | apply nA | apply nN | apply nD)); exact HO257.out)) k_ hk, Kd.fresh' (Kd.N_lt (by (with_reducible repeat (first | apply nA | apply nN | apply nD)); exact HO269.out)) k_ hk, Kd.freshB (g := gb249) (o := .cells #[.int .i64 a1_0, .string a1_1, .slice A1_2 l1_2.length c1_2] 25 (0, 0)) (by (with_reducible repeat (first | refine kN ?_ _ | refine kD ?_ | refine kA ?_ _)); exact BK249.out) k_ hk⟩) _ (by first | exact Nat.le_refl _ | simp)) (Below.refl _ _) (Nat.le_refl _) (by simp) ?_; (case hd => rfl); (case hg => rfl); (case hr => first | (go_simp; done) | (go_simp; rfl)); (case hp => exact (Reps.c3 (show Kd.FK k25 _ _ (⟨a1_0, a1_1, l1_2⟩ : S25) [.int .i64 a1_0, .string a1_1, .slice A1_2 l1_2.length c1_2] from (k25_mkFV _ _ (⟨a1_0, a1_1, l1_2⟩ : S25) (Kd.V_mono (ok' := (fun k_ => ((P0_ k_ ∨ P1_2_ k_) ∨ w.heap.size ≤ k_) ∧ some k_ ≠ (v256 : Value).ownBlock ∧ some k_ ≠ (v268 : Value).ownBlock ∧ k_ ≠ gb249)) (HO1_2.out) (fun k_ hk => ⟨hk.1, ⟨hk.2.1, ⟨hk.2.2.1, hk.2.2.2⟩⟩⟩)))) (Reps.none _ _)))
       intro v271 w23 ho24 hb hg_ hnew_
       clear hg_ hnew_
       (first | rw [← Ny270.out] at ho24 | (simp only [Int.reduceToNat] at ho24; rw [← Ny270.out] at ho24))
       have n0_ := aS (Kd.V_elder' (by (with_reducible repeat (first | apply vA | apply vN | apply vD)); exact HO0.out) (Kd.N_base ho24) hb)
       have n1_ := aS (Kd.V_elder' (by (with_reducible repeat (first | apply vA | apply vN | apply vD)); exact HO1_2.out) (Kd.N_base ho24) hb)
       have n2_ := aS (Kd.V_elder' (by (with_reducible repeat (first | apply vA | apply vN | apply vD)); exact HO254.out) (Kd.N_base ho24) hb)
       have n3_ := aS (Kd.N_elder' (by (with_reducible repeat (first | apply nA | apply nN | apply nD)); exact HO257.out) (Kd.N_base ho24) hb)
       have n4_ := aS (Kd.V_elder' (by (with_reducible repeat (first | apply vA | apply vN | apply vD)); exact HO261.out) (Kd.N_base ho24) hb)
       have n5_ := aS (Kd.N_elder' (by (with_reducible repeat (first | apply nA | apply nN | apply nD)); exact HO269.out) (Kd.N_base ho24) hb)
       have n6_ := aS (Kd.N_lower ho24 (below_size (by repeat (first | (with_reducible first | exact HB.out | apply bA | apply bN | apply bD | refine bS ?_ GE249.out) | exact HB.out))))
       have n7_ := aS (blk_below (g := gb249) (o := .cells #[.int .i64 a1_0, .string a1_1, .slice A1_2 l1_2.length c1_2] 25 (0, 0)) (by (with_reducible repeat (first | refine kN ?_ _ | refine kD ?_ | refine kA ?_ _)); exact BK249.out) hb)
       have n8_ := aS (below_step (by repeat (first | (with_reducible first | exact HB.out | apply bA | apply bN | apply bD | refine bS ?_ GE249.out) | exact HB.out)) hb)
       clear HO0
       clear HO1_2
       clear HO254
       clear HO257
       clear HO261
       clear HO269
       clear BK249
       clear HB
       have HO0 := n0_
       have HO1_2 := n1_
       have HO254 := n2_
       have HO257 := n3_
       have HO261 := n4_
       have HO269 := n5_
       have HO272 := n6_
       have BK249 := n7_
       have HB := n8_
       clear n0_ n1_ n2_ n3_ n4_ n5_ n6_ n7_ n8_
       clear hb ho24
       refine hK.out _ _ ⟨(blk_cell BK249.out 0).trans rfl, (blk_cell BK249.out 1).trans rfl, (blk_cell BK249.out 2).trans rfl⟩ (fun hHeld => ?_)
       clear hK K
       refine norm_ (a' := ?_) ?_ ?_
       rotate_left
       ·show Act.put _ (some 35) _ = _
        simp only [Act.put, s1, s2, s3, i64_w, i32_w]
        rfl
       exact norm_ (by first | (simp only [putAll, Act.put, List.setIfInBounds_toArray, List.set_cons_zero, List.set_cons_succ]; done) | (simp only [putAll, Act.put, List.setIfInBounds_toArray, List.set_cons_zero, List.set_cons_succ]; rfl)) (hJ1_2_4_6 (v265, v268, v271) _ ⟨hHeld, (by (with_reducible repeat (first | apply vA | apply vN | apply vD)); exact Kd.V_mono HO0.out (fun _ hk => ⟨hk.1.1, ⟨hk.1.2.1, ⟨hk.1.2.2.1, ⟨hk.2, hk.1.2.2.2⟩⟩⟩⟩)), (by (with_reducible repeat (first | apply vA | apply vN | apply vD)); exact Kd.V_mono HO1_2.out (fun _ hk => ⟨hk.1.1, ⟨hk.1.2.1, ⟨hk.1.2.2.1, ⟨hk.2, hk.1.2.2.2⟩⟩⟩⟩)), (by (with_reducible repeat (first | apply vA | apply vN | apply vD)); exact Kd.V_mono HO254.out (fun _ hk => ⟨hk.1.1, ⟨hk.1.2.1, ⟨hk.1.2.2.1, ⟨hk.2, hk.1.2.2.2⟩⟩⟩⟩)), (by (with_reducible repeat (first | apply nA | apply nN | apply nD)); exact Kd.N_mono HO257.out (fun _ hk => ⟨hk.1.1, ⟨hk.1.2.1, ⟨hk.2, hk.1.2.2⟩⟩⟩)), (by (with_reducible repeat (first | apply vA | apply vN | apply vD)); exact Kd.V_mono HO261.out (fun _ hk => ⟨hk.1.1, ⟨hk.1.2.1, ⟨hk.1.2.2.1, ⟨hk.2, hk.1.2.2.2⟩⟩⟩⟩)), (by (with_reducible repeat (first | apply nA | apply nN | apply nD)); exact Kd.N_mono HO269.out (fun _ hk => ⟨hk.1.1, ⟨hk.1.2.1, ⟨hk.2, hk.1.2.2⟩⟩⟩)), (by (with_reducible repeat (first | apply nA | apply nN | apply nD)); exact HO272.out), (by (with_reducible repeat (first | refine kN ?_ _ | refine kD ?_ | refine kA ?_ _)); exact BK249.out), (by repeat (first | (with_reducible first | exact HB.out | apply bA | apply bN | apply bD | refine bS ?_ GE249.out) | exact HB.out))⟩)
     rintro ⟨v265, v268, v271⟩ w24 ⟨hS_, h0_, h1_, h2_, h3_, h4_, h5_, h6_, h7_, h8_⟩
     have n0_ : Aside0 (Kd.V k25 25 w24 w.heap.size (fun k_ => ((P0_ k_ ∨ P1_2_ k_) ∨ w.heap.size ≤ k_) ∧ some k_ ≠ (v256 : Value).ownBlock ∧ some k_ ≠ (v268 : Value).ownBlock ∧ some k_ ≠ (v271 : Value).ownBlock ∧ k_ ≠ gb249) (.slice A0 l0.length c0) l0) := ⟨h0_⟩
     have n1_ : Aside0 (Kd.V k99 99 w24 w.heap.size (fun k_ => ((P0_ k_ ∨ P1_2_ k_) ∨ w.heap.size ≤ k_) ∧ some k_ ≠ (v256 : Value).ownBlock ∧ some k_ ≠ (v268 : Value).ownBlock ∧ some k_ ≠ (v271 : Value).ownBlock ∧ k_ ≠ gb249) (.slice A1_2 l1_2.length c1_2) l1_2) := ⟨h1_⟩
     have n2_ : Aside0 (Kd.V k25 25 w24 w.heap.size (fun k_ => ((P0_ k_ ∨ P1_2_ k_) ∨ w.heap.size ≤ k_) ∧ some k_ ≠ (v256 : Value).ownBlock ∧ some k_ ≠ (v268 : Value).ownBlock ∧ some k_ ≠ (v271 : Value).ownBlock ∧ k_ ≠ gb249) (.slice A0 y250.length c0) y250) := ⟨h2_⟩
     have n3_ : Aside0 (Kd.N k25 25 w24 w.heap.size (fun k_ => ((P0_ k_ ∨ P1_2_ k_) ∨ w.heap.size ≤ k_) ∧ some k_ ≠ (v268 : Value).ownBlock ∧ some k_ ≠ (v271 : Value).ownBlock ∧ k_ ≠ gb249) v256 t255) := ⟨h3_⟩
     have n4_ : Aside0 (Kd.V k25 25 w24 w.heap.size (fun k_ => ((P0_ k_ ∨ P1_2_ k_) ∨ w.heap.size ≤ k_) ∧ some k_ ≠ (v256 : Value).ownBlock ∧ some k_ ≠ (v268 : Value).ownBlock ∧ some k_ ≠ (v271 : Value).ownBlock ∧ k_ ≠ gb249) v260 t259) := ⟨h4_⟩
     have n5_ : Aside0 (Kd.N k25 25 w24 w.heap.size (fun k_ => ((P0_ k_ ∨ P1_2_ k_) ∨ w.heap.size ≤ k_) ∧ some k_ ≠ (v256 : Value).ownBlock ∧ some k_ ≠ (v271 : Value).ownBlock ∧ k_ ≠ gb249) v268 y267) := ⟨h5_⟩
     have n6_ : Aside0 (Kd.N k25 25 w24 w.heap.size (fun k_ => ((P0_ k_ ∨ P1_2_ k_) ∨ w.heap.size ≤ k_) ∧ some k_ ≠ (v256 : Value).ownBlock ∧ some k_ ≠ (v268 : Value).ownBlock ∧ k_ ≠ gb249) v271 y270) := ⟨h6_⟩
     have n7_ : Aside0 (w24.heap[gb249]? = some (.cells #[.int .i64 a1_0, .string a1_1, .slice A1_2 l1_2.length c1_2] 25 (0, 0))) := ⟨h7_⟩
     have n8_ : Aside0 (Below w.heap.size w w24) := ⟨h8_⟩
     clear HO0
     clear HO1_2
     clear HO254
     clear HO257
     clear HO261
     clear BK249
     clear HB
     clear h0_ h1_ h2_ h3_ h4_ h5_ h6_ h7_ h8_
     have HO0 := n0_
     have HO1_2 := n1_
     have HO254 := n2_
     have HO257 := n3_
     have HO261 := n4_
     have HO269 := n5_
     have HO272 := n6_
     have BK249 := n7_
     have HB := n8_
     clear n0_ n1_ n2_ n3_ n4_ n5_ n6_ n7_ n8_
     have hHeld : w24.cell? ⟨gb249, 0, none⟩ = some (.int .i64 a1_0) ∧ w24.cell? ⟨gb249, 1, none⟩ = some (.string a1_1) ∧ w24.cell? ⟨gb249, 2, none⟩ = some (.slice A1_2 l1_2.length c1_2) := hS_
     obtain ⟨Ao26, co26, eo26⟩ := Kd.N_slice HO272.out
     (first | subst eo26 | (injection eo26 with f1_ f2_ f3_; have f4_ := f1_.symm; have f5_ := f3_.symm; clear f1_ f2_ f3_; subst f4_; subst f5_))
     refine norm_ (a' := ?_) ?_ ?_
     rotate_left
     ·simp only [putAll, Act.put, List.setIfInBounds_toArray, List.set_cons_zero, List.set_cons_succ]
      rfl
     refine one_ (i := 7) (N := some 36) #[true, true, true, true, true, true, true, true, false, false, false] rfl rfl (one_of HT_.out (by kernel_rfl)) (by decide) (fun K hK => ?_)
     refine Kd.N_append_rows_step k25 (w0 := w) w.heap.size (by rfl) (.tmp 33) (.tmp 35) 22 25 (.agg #[(.int .i64 0), (.string ⟨#[]⟩), (.slice none 0 0)]) 48 rfl Try.underlying22 info25 rfl (by decide) (by omega) v268 y267 y270 _ _ _ (fun k_ => ((P0_ k_ ∨ P1_2_ k_) ∨ w.heap.size ≤ k_) ∧ some k_ ≠ (v256 : Value).ownBlock ∧ k_ ≠ gb249) (fun k_ => ((fun k_ => ((P0_ k_ ∨ P1_2_ k_) ∨ w.heap.size ≤ k_) ∧ some k_ ≠ (v256 : Value).ownBlock ∧ k_ ≠ gb249)) k_ ∧ some k_ ≠ (v268 : Value).ownBlock) rfl rfl ?aO ?aR (fun _ hk => hk) ?aF ?aB ?aS ?aL ?_
     (case aR => exact (by skip; exact Kd.N_F (Kd.N_mono (ok' := (fun k_ => ((fun k_ => ((P0_ k_ ∨ P1_2_ k_) ∨ w.heap.size ≤ k_) ∧ some k_ ≠ (v256 : Value).ownBlock ∧ k_ ≠ gb249)) k_ ∧ some k_ ≠ (v268 : Value).ownBlock)) (HO272.out) (fun k_ hk => ⟨⟨hk.1, ⟨hk.2.1, hk.2.2.2⟩⟩, hk.2.2.1⟩))))
     (case aB => exact (by repeat (first | (with_reducible first | exact HB.out | apply bA | apply bN | apply bD | refine bS ?_ GE249.out) | exact HB.out)))
     (case aF => exact (fun k_ hk => ⟨(.inr (Nat.le_trans (below_size (by repeat (first | (with_reducible first | exact HB.out | apply bA | apply bN | apply bD | refine bS ?_ GE249.out) | exact HB.out))) hk)), Kd.fresh' (Kd.N_lt (by (with_reducible repeat (first | apply nA | apply nN | apply nD)); exact HO257.out)) k_ hk, Kd.freshB (g := gb249) (o := .cells #[.int .i64 a1_0, .string a1_1, .slice A1_2 l1_2.length c1_2] 25 (0, 0)) (by (with_reducible repeat (first | refine kN ?_ _ | refine kD ?_ | refine kA ?_ _)); exact BK249.out) k_ hk⟩))
     (case aO => exact (by (with_reducible repeat (first | apply nA | apply nN | apply nD)); exact Kd.N_mono HO269.out (fun _ hk => ⟨hk.1, ⟨hk.2.1, hk.2.2.2⟩⟩)))
     (case aS => exact (below_size (by repeat (first | (with_reducible first | exact HB.out | apply bA | apply bN | apply bD | refine bS ?_ GE249.out) | exact HB.out))))
     (case aL => have := LMc10.out; omega)
     intro v274 w25 ho hb hg hat
     rw [← Ny273.out] at ho
     have n0_ := aS (Kd.V_afterv (ok := (fun k_ => ((P0_ k_ ∨ P1_2_ k_) ∨ w.heap.size ≤ k_) ∧ some k_ ≠ (v256 : Value).ownBlock ∧ some k_ ≠ (.slice Ao26 y270.length co26 : Value).ownBlock ∧ k_ ≠ gb249)) (by (with_reducible repeat (first | apply vA | apply vN | apply vD)); exact Kd.V_mono HO0.out (fun _ hk => ⟨⟨hk.1, ⟨hk.2.1, ⟨hk.2.2.2.1, hk.2.2.2.2⟩⟩⟩, hk.2.2.1⟩)) hg hat)
     have n1_ := aS (Kd.V_afterv (ok := (fun k_ => ((P0_ k_ ∨ P1_2_ k_) ∨ w.heap.size ≤ k_) ∧ some k_ ≠ (v256 : Value).ownBlock ∧ some k_ ≠ (.slice Ao26 y270.length co26 : Value).ownBlock ∧ k_ ≠ gb249)) (by (with_reducible repeat (first | apply vA | apply vN | apply vD)); exact Kd.V_mono HO1_2.out (fun _ hk => ⟨⟨hk.1, ⟨hk.2.1, ⟨hk.2.2.2.1, hk.2.2.2.2⟩⟩⟩, hk.2.2.1⟩)) hg hat)
     have n2_ := aS (blk_grown (g := gb249) (o := .cells #[.int .i64 a1_0, .string a1_1, .slice A1_2 l1_2.length c1_2] 25 (0, 0)) (by (with_reducible repeat (first | refine kN ?_ _ | refine kD ?_ | refine kA ?_ _)); exact BK249.out) hg (Kd.N_away HO269.out (fun _ hk => hk.2.2.2)))
     have n3_ := aS (Kd.V_afterv (ok := (fun k_ => ((P0_ k_ ∨ P1_2_ k_) ∨ w.heap.size ≤ k_) ∧ some k_ ≠ (v256 : Value).ownBlock ∧ some k_ ≠ (.slice Ao26 y270.length co26 : Value).ownBlock ∧ k_ ≠ gb249)) (by (with_reducible repeat (first | apply vA | apply vN | apply vD)); exact Kd.V_mono HO254.out (fun _ hk => ⟨⟨hk.1, ⟨hk.2.1, ⟨hk.2.2.2.1, hk.2.2.2.2⟩⟩⟩, hk.2.2.1⟩)) hg hat)
     have n4_ := aS (Kd.N_afterv (ok := (fun k_ => ((P0_ k_ ∨ P1_2_ k_) ∨ w.heap.size ≤ k_) ∧ some k_ ≠ (.slice Ao26 y270.length co26 : Value).ownBlock ∧ k_ ≠ gb249)) (by (with_reducible repeat (first | apply nA | apply nN | apply nD)); exact Kd.N_mono HO257.out (fun _ hk => ⟨⟨hk.1, ⟨hk.2.2.1, hk.2.2.2⟩⟩, hk.2.1⟩)) hg hat)
     have n5_ := aS (Kd.V_afterv (ok := (fun k_ => ((P0_ k_ ∨ P1_2_ k_) ∨ w.heap.size ≤ k_) ∧ some k_ ≠ (v256 : Value).ownBlock ∧ some k_ ≠ (.slice Ao26 y270.length co26 : Value).ownBlock ∧ k_ ≠ gb249)) (by (with_reducible repeat (first | apply vA | apply vN | apply vD)); exact Kd.V_mono HO261.out (fun _ hk => ⟨⟨hk.1, ⟨hk.2.1, ⟨hk.2.2.2.1, hk.2.2.2.2⟩⟩⟩, hk.2.2.1⟩)) hg hat)
     have n6_ := aS (Kd.N_afterv (ok := (fun k_ => ((P0_ k_ ∨ P1_2_ k_) ∨ w.heap.size ≤ k_) ∧ some k_ ≠ (v256 : Value).ownBlock ∧ k_ ≠ gb249)) (by (with_reducible repeat (first | apply nA | apply nN | apply nD)); exact Kd.N_mono HO272.out (fun _ hk => ⟨⟨hk.1, ⟨hk.2.1, hk.2.2.2⟩⟩, hk.2.2.1⟩)) hg hat)
     have n7_ := aS (hb)
     have n8_ := aS (ho)
     clear HO0
     clear HO1_2
     clear BK249
     clear HO254
     clear HO257
     clear HO261
     clear HO272
     clear HB
     clear HO269
     have HO0 := n0_
     have HO1_2 := n1_
     have BK249 := n2_
     have HO254 := n3_
     have HO257 := n4_
     have HO261 := n5_
     have HO272 := n6_
     have HB := n7_
     have HO275 := n8_
     clear n0_ n1_ n2_ n3_ n4_ n5_ n6_ n7_ n8_
     clear ho hb hg hat
     obtain ⟨Ao27, co27, eo27⟩ := Kd.N_slice HO275.out
     (first | subst eo27 | (injection eo27 with f1_ f2_ f3_; have f4_ := f1_.symm; have f5_ := f3_.symm; clear f1_ f2_ f3_; subst f4_; subst f5_))
     refine hK.out _ _ ⟨(blk_cell BK249.out 0).trans rfl, (blk_cell BK249.out 1).trans rfl, (blk_cell BK249.out 2).trans rfl⟩ (fun hHeld => ?_)
     clear hK K
     refine norm_ (a' := ?_) ?_ ?_
     rotate_left
     ·show Act.put _ (some 36) _ = _
      simp only [Act.put, s1, s2, s3, i64_w, i32_w]
      rfl
     refine one_ (i := 8) (N := some 37) #[true, true, true, true, true, true, true, true, true, false, false] rfl rfl (one_of HT_.out (by kernel_rfl)) (by decide) (fun K hK => ?_)
     refine goes_ Try.func12 (by kernel_rfl) rfl #[.slice Ao27 y273.length co27] (by rfl) rfl rfl (by (try simp only [List.map_toArray, List.map_cons, List.map_nil]); first | done | rfl | (simp only [List.length_drop, List.length_take]; rfl)) ?_
     with_reducible refine (clerestoryref1_ActiveCheck.calls k _ _ y273 t276 _ ?side1 ?side2 A11.out).mono ?_
     (case side1 => repeat (first | exact (Kd.N_reads' HO275.out).2.2 | (with_reducible refine cA ?_ _) | (with_reducible refine cN ?_ _) | (with_reducible refine cD ?_)))
     (case side2 => exact (Kd.N_reads' HO275.out).2.1)
     rintro e w' ⟨rfl, ⟨nd, rfl⟩⟩
     refine ⟨_, rfl, ?_⟩
     refine hK.out _ _ ⟨(blk_cell BK249.out 0).trans rfl, (blk_cell BK249.out 1).trans rfl, (blk_cell BK249.out 2).trans rfl⟩ (fun hHeld => ?_)
     clear hK K
     refine norm_ (a' := ?_) ?_ ?_
     rotate_left
     ·show Act.put _ (some 37) _ = _
      simp only [Act.put, s1, s2, s3, i64_w, i32_w]
      rfl
     refine pure_ (i := 9) (N := some 9) (v := ?_) (a' := ?_) #[true, true, true, true, true, true, true, true, true, true, false] rfl rfl (any_of HT_.out (by kernel_rfl)) (fun _ _ _ h => h) (Or.inl ⟨by rfl, ?_⟩) ?_ ?_
     rotate_left
     ·intro w'
      go_simp
      with_reducible rfl
     rotate_left
     ·simp only [Act.put, s1, s2, s3, i64_w, i32_w]
      rfl
     refine pure_ (i := 10) (N := some 10) (v := ?_) (a' := ?_) #[true, true, true, true, true, true, true, true, true, true, true] rfl rfl (any_of HT_.out (by kernel_rfl)) (fun _ _ _ h => h) (Or.inl ⟨by rfl, ?_⟩) ?_ ?_
     rotate_left
     ·intro w'
      go_simp
      with_reducible rfl
     rotate_left
     ·simp only [Act.put, s1, s2, s3, i64_w, i32_w]
      rfl
     refine done_ (done_of HT_.out (by kernel_rfl)) ?_
     go_upto_if 39 with (fail)
     go_cut [11] (fun v11 wc => ∃ (kq : Nat) (x11_11 : List (S25)), Aside0 (clerestorylaw1_ActiveTurns.j0 kq y250 t255 t258 t259 t262 t263 t276 x11_11 ([] : List (S25)) = some r) ∧ Aside0 (kq ≤ k) ∧ Aside0 (Kd.V k25 25 wc w.heap.size (fun k_ => ((P0_ k_ ∨ P1_2_ k_) ∨ w.heap.size ≤ k_) ∧ some k_ ≠ (v256 : Value).ownBlock ∧ some k_ ≠ (v11 : Value).ownBlock ∧ some k_ ≠ ((.slice none 0 0) : Value).ownBlock ∧ k_ ≠ gb249) (.slice A0 y250.length c0) y250) ∧ Aside0 (Kd.N k25 25 wc w.heap.size (fun k_ => ((P0_ k_ ∨ P1_2_ k_) ∨ w.heap.size ≤ k_) ∧ some k_ ≠ (v11 : Value).ownBlock ∧ some k_ ≠ ((.slice none 0 0) : Value).ownBlock ∧ k_ ≠ gb249) v256 t255) ∧ Aside0 (Kd.V k25 25 wc w.heap.size (fun k_ => ((P0_ k_ ∨ P1_2_ k_) ∨ w.heap.size ≤ k_) ∧ some k_ ≠ (v256 : Value).ownBlock ∧ some k_ ≠ (v11 : Value).ownBlock ∧ some k_ ≠ ((.slice none 0 0) : Value).ownBlock ∧ k_ ≠ gb249) v260 t259) ∧ Aside0 (Kd.N k25 25 wc w.heap.size (fun k_ => ((P0_ k_ ∨ P1_2_ k_) ∨ w.heap.size ≤ k_) ∧ some k_ ≠ (v256 : Value).ownBlock ∧ some k_ ≠ ((.slice none 0 0) : Value).ownBlock ∧ k_ ≠ gb249) v11 x11_11) ∧ Aside0 (Kd.N k25 25 wc w.heap.size (fun k_ => ((P0_ k_ ∨ P1_2_ k_) ∨ w.heap.size ≤ k_) ∧ some k_ ≠ (v256 : Value).ownBlock ∧ some k_ ≠ (v11 : Value).ownBlock ∧ k_ ≠ gb249) (.slice none 0 0) ([] : List (S25))) ∧ Aside0 (Kd.V k99 99 wc w.heap.size (fun k_ => ((P0_ k_ ∨ P1_2_ k_) ∨ w.heap.size ≤ k_) ∧ some k_ ≠ (v256 : Value).ownBlock ∧ some k_ ≠ (v11 : Value).ownBlock ∧ some k_ ≠ ((.slice none 0 0) : Value).ownBlock ∧ k_ ≠ gb249) (.slice A1_2 l1_2.length c1_2) l1_2) ∧ Aside0 (wc.heap[gb249]? = some (.cells #[.int .i64 a1_0, .string a1_1, (.slice A1_2 l1_2.length c1_2)] 25 (0, 0))) ∧ Aside0 (Below w.heap.size w wc))
     case first =>
      have H := HC12.out
      clear HC12
      by_cases c28 : t276 = 0
      ·rw [if_pos c28] at H
       have c28b0 : (t276 == 0) = true := beq_iff_eq.mpr c28
       have c28b1 : (t276 != 0) = false := bne_eq_false_iff_eq.mpr c28
       clear c28
       (first | rw [c28b0] | (simp only [i64_w, i32_w]; rw [c28b0]) | skip)
       replace H := Option.bind_eq_some_iff.mp H
       obtain ⟨t277, A290, H⟩ := H
       replace H : (clerestorylaw1_ActiveTurns.j0 k y250 t255 t258 t259 t262 t263 t276 t277 ([] : List (S25))) = some r := H
       have A29 := aS A290
       clear A290
       have H' := aS H
       clear H
       have hcz30_0 : w25.cell? ⟨gb249, 0, none⟩ = some (.int .i64 a1_0) := (blk_cell BK249.out 0).trans rfl
       have hcz30_1 : w25.cell? ⟨gb249, 1, none⟩ = some (.string a1_1) := (blk_cell BK249.out 1).trans rfl
       have hcz30_2 : w25.cell? ⟨gb249, 2, none⟩ = some (.slice A1_2 l1_2.length c1_2) := (blk_cell BK249.out 2).trans rfl
       have hfz30_0 := blk_frozen BK249.out 0
       have hfz30_1 := blk_frozen BK249.out 1
       have hfz30_2 := blk_frozen BK249.out 2
       go_wp2_with (first | ((with_reducible refine gate_callee (f := 13) rfl ?_); refine goesL_ (some 42) rfl rfl Try.func13 (by kernel_rfl) rfl #[.slice A0 y250.length c0, .agg #[.int .i64 a1_0, .string a1_1, .slice A1_2 l1_2.length c1_2]] rfl (by (try simp only [List.map_toArray, List.map_cons, List.map_nil]); first | done | rfl | (simp only [List.length_drop, List.length_take]; rfl)) ?_; (with_reducible refine (clerestoryref1_ActivePush.calls k (fun k_ => ((((P0_ k_ ∨ P1_2_ k_) ∨ w.heap.size ≤ k_) ∧ (some k_ ≠ (v256 : Value).ownBlock ∧ (some k_ ≠ (.slice Ao26 y270.length co26 : Value).ownBlock ∧ k_ ≠ gb249))) ∧ some k_ ≠ (.slice Ao27 y273.length co27 : Value).ownBlock)) _ _ y250 a1_0 a1_1 (fun k_ => ((((P0_ k_ ∨ P1_2_ k_) ∨ w.heap.size ≤ k_) ∧ (some k_ ≠ (v256 : Value).ownBlock ∧ (some k_ ≠ (.slice Ao26 y270.length co26 : Value).ownBlock ∧ k_ ≠ gb249))) ∧ some k_ ≠ (.slice Ao27 y273.length co27 : Value).ownBlock)) _ _ l1_2 t277 _ ?side1 ?side2 A29.out).mono ?_); (case side1 => exact HO254.out); (case side2 => exact HO1_2.out); rintro e w31 ⟨v278, rfl, ho0, hb⟩; refine ⟨_, rfl, ?_⟩; have n0_ := aS (Kd.V_elder' (by (with_reducible repeat (first | apply vA | apply vN | apply vD)); exact HO0.out) (Kd.N_base ho0) hb); have n1_ := aS (Kd.V_elder' (by (with_reducible repeat (first | apply vA | apply vN | apply vD)); exact HO1_2.out) (Kd.N_base ho0) hb); have n2_ := aS (Kd.V_elder' (by (with_reducible repeat (first | apply vA | apply vN | apply vD)); exact HO254.out) (Kd.N_base ho0) hb); have n3_ := aS (Kd.N_elder' (by (with_reducible repeat (first | apply nA | apply nN | apply nD)); exact HO257.out) (Kd.N_base ho0) hb); have n4_ := aS (Kd.V_elder' (by (with_reducible repeat (first | apply vA | apply vN | apply vD)); exact HO261.out) (Kd.N_base ho0) hb); have n5_ := aS (Kd.N_elder' (by (with_reducible repeat (first | apply nA | apply nN | apply nD)); exact HO272.out) (Kd.N_base ho0) hb); have n6_ := aS (Kd.N_elder' (by (with_reducible repeat (first | apply nA | apply nN | apply nD)); exact HO275.out) (Kd.N_base ho0) hb); have n7_ := aS (Kd.N_lower (Kd.N_mono (ok' := fun k_ => ((P0_ k_ ∨ P1_2_ k_) ∨ w.heap.size ≤ k_) ∧ some k_ ≠ (v256 : Value).ownBlock ∧ some k_ ≠ (.slice Ao26 y270.length co26 : Value).ownBlock ∧ some k_ ≠ (.slice Ao27 y273.length co27 : Value).ownBlock ∧ k_ ≠ gb249) ho0 (fun k_ hk_ => ⟨Or.elim hk_ (fun hs_ => Or.elim hs_ (fun hs_ => hs_.1.1) (fun hs_ => hs_.1.1)) (fun hn_ => (.inr (Nat.le_trans (below_size (by repeat (first | (with_reducible first | exact HB.out | apply bA | apply bN | apply bD | refine bS ?_ GE249.out) | exact HB.out))) hn_))), Or.elim hk_ (fun hs_ => Or.elim hs_ (fun hs_ => hs_.1.2.1) (fun hs_ => hs_.1.2.1)) (fun hn_ => (Kd.fresh' (Kd.N_lt (by (with_reducible repeat (first | apply nA | apply nN | apply nD)); exact HO257.out)) k_ hn_)), Or.elim hk_ (fun hs_ => Or.elim hs_ (fun hs_ => hs_.1.2.2.1) (fun hs_ => hs_.1.2.2.1)) (fun hn_ => (Kd.fresh' (Kd.N_lt (by (with_reducible repeat (first | apply nA | apply nN | apply nD)); exact HO272.out)) k_ hn_)), Or.elim hk_ (fun hs_ => Or.elim hs_ (fun hs_ => hs_.2) (fun hs_ => hs_.2)) (fun hn_ => (Kd.fresh' (Kd.N_lt (by (with_reducible repeat (first | apply nA | apply nN | apply nD)); exact HO275.out)) k_ hn_)), Or.elim hk_ (fun hs_ => Or.elim hs_ (fun hs_ => hs_.1.2.2.2) (fun hs_ => hs_.1.2.2.2)) (fun hn_ => (Kd.freshB (g := gb249) (o := .cells #[.int .i64 a1_0, .string a1_1, .slice A1_2 l1_2.length c1_2] 25 (0, 0)) (by (with_reducible repeat (first | refine kN ?_ _ | refine kD ?_ | refine kA ?_ _)); exact BK249.out) k_ hn_))⟩)) (below_size (by repeat (first | (with_reducible first | exact HB.out | apply bA | apply bN | apply bD | refine bS ?_ GE249.out) | exact HB.out)))); have n8_ := aS (blk_below (g := gb249) (o := .cells #[.int .i64 a1_0, .string a1_1, .slice A1_2 l1_2.length c1_2] 25 (0, 0)) (by (with_reducible repeat (first | refine kN ?_ _ | refine kD ?_ | refine kA ?_ _)); exact BK249.out) hb); have n9_ := aS (below_step (by repeat (first | (with_reducible first | exact HB.out | apply bA | apply bN | apply bD | refine bS ?_ GE249.out) | exact HB.out)) hb); clear HO0; clear HO1_2; clear HO254; clear HO257; clear HO261; clear HO272; clear HO275; clear BK249; clear HB; have HO0 := n0_; have HO1_2 := n1_; have HO254 := n2_; have HO257 := n3_; have HO261 := n4_; have HO272 := n5_; have HO275 := n6_; have HO279 := n7_; have BK249 := n8_; have HB := n9_; clear n0_ n1_ n2_ n3_ n4_ n5_ n6_ n7_ n8_ n9_; (try clear hb); (try clear hb2); (try clear hk); (try clear hi); (try clear ho0)))
       go_meet
       case rel => exact ⟨_, (t277), H', ⟨by first | omega | exact Nat.le_refl _⟩, ⟨by (with_reducible repeat (first | apply vA | apply vN | apply vD)); exact Kd.V_mono HO254.out (fun _ hk => ⟨hk.1.1.1, ⟨hk.1.1.2.1, ⟨hk.2, ⟨(by simp [Value.ownBlock]), hk.1.1.2.2.2⟩⟩⟩⟩)⟩, ⟨by (with_reducible repeat (first | apply nA | apply nN | apply nD)); exact Kd.N_mono HO257.out (fun _ hk => ⟨hk.1.1.1, ⟨hk.2, ⟨(by simp [Value.ownBlock]), hk.1.1.2.2⟩⟩⟩)⟩, ⟨by (with_reducible repeat (first | apply vA | apply vN | apply vD)); exact Kd.V_mono HO261.out (fun _ hk => ⟨hk.1.1.1, ⟨hk.1.1.2.1, ⟨hk.2, ⟨(by simp [Value.ownBlock]), hk.1.1.2.2.2⟩⟩⟩⟩)⟩, ⟨by (with_reducible repeat (first | apply nA | apply nN | apply nD)); exact Kd.N_mono HO279.out (fun _ hk => ⟨hk.1, ⟨hk.2.1, ⟨(by simp [Value.ownBlock]), hk.2.2.2.2⟩⟩⟩)⟩, ⟨by first | exact Kd.S_nil _ _ _ _ _ | exact Kd.N_nil _ _ _ _ _ | exact Kd.V_nil _ _ _ _ _ | exact Kd.Q_nil _ _ _ _ _ | exact Kd.R_nil _ _ _ _ _⟩, ⟨by (with_reducible repeat (first | apply vA | apply vN | apply vD)); exact Kd.V_mono HO1_2.out (fun _ hk => ⟨hk.1.1.1, ⟨hk.1.1.2.1, ⟨hk.2, ⟨(by simp [Value.ownBlock]), hk.1.1.2.2.2⟩⟩⟩⟩)⟩, ⟨by (with_reducible repeat (first | refine kN ?_ _ | refine kD ?_ | refine kA ?_ _)); exact BK249.out⟩, ⟨by repeat (first | (with_reducible first | exact HB.out | apply bA | apply bN | apply bD | refine bS ?_ GE249.out) | exact HB.out)⟩⟩
      ·rw [if_neg c28] at H
       have c28b0 : (t276 == 0) = false := beq_eq_false_iff_ne.mpr c28
       have c28b1 : (t276 != 0) = true := bne_iff_ne.mpr c28
       (first | rw [c28b0] | (simp only [i64_w, i32_w]; rw [c28b0]) | skip)
       have H' := aS H
       clear H
       go_wp2
       go_meet
       case rel => exact ⟨_, (([] : List (S25))), H', ⟨by first | omega | exact Nat.le_refl _⟩, ⟨by (with_reducible repeat (first | apply vA | apply vN | apply vD)); exact Kd.V_mono HO254.out (fun _ hk => ⟨hk.1.1, ⟨hk.1.2.1, ⟨(by simp [Value.ownBlock]), ⟨(by simp [Value.ownBlock]), hk.1.2.2.2⟩⟩⟩⟩)⟩, ⟨by (with_reducible repeat (first | apply nA | apply nN | apply nD)); exact Kd.N_mono HO257.out (fun _ hk => ⟨hk.1.1, ⟨(by simp [Value.ownBlock]), ⟨(by simp [Value.ownBlock]), hk.1.2.2⟩⟩⟩)⟩, ⟨by (with_reducible repeat (first | apply vA | apply vN | apply vD)); exact Kd.V_mono HO261.out (fun _ hk => ⟨hk.1.1, ⟨hk.1.2.1, ⟨(by simp [Value.ownBlock]), ⟨(by simp [Value.ownBlock]), hk.1.2.2.2⟩⟩⟩⟩)⟩, ⟨by first | exact Kd.S_nil _ _ _ _ _ | exact Kd.N_nil _ _ _ _ _ | exact Kd.V_nil _ _ _ _ _ | exact Kd.Q_nil _ _ _ _ _ | exact Kd.R_nil _ _ _ _ _⟩, ⟨by first | exact Kd.S_nil _ _ _ _ _ | exact Kd.N_nil _ _ _ _ _ | exact Kd.V_nil _ _ _ _ _ | exact Kd.Q_nil _ _ _ _ _ | exact Kd.R_nil _ _ _ _ _⟩, ⟨by (with_reducible repeat (first | apply vA | apply vN | apply vD)); exact Kd.V_mono HO1_2.out (fun _ hk => ⟨hk.1.1, ⟨hk.1.2.1, ⟨(by simp [Value.ownBlock]), ⟨(by simp [Value.ownBlock]), hk.1.2.2.2⟩⟩⟩⟩)⟩, ⟨by (with_reducible repeat (first | refine kN ?_ _ | refine kD ?_ | refine kA ?_ _)); exact BK249.out⟩, ⟨by repeat (first | (with_reducible first | exact HB.out | apply bA | apply bN | apply bD | refine bS ?_ GE249.out) | exact HB.out)⟩⟩
     case rest =>
      clear HC12
      try clear c1
      try clear c2
      try clear p2
      try clear c3
      try clear c9
      try clear c10
      try clear c12
      try clear c13
      try clear c28
      try clear c28b0
      try clear c28b1
      try clear hcz30_0
      try clear hcz30_1
      try clear hcz30_2
      try clear hfz30_0
      try clear hfz30_1
      try clear hfz30_2
      obtain ⟨kq, x11_11, HA, HJ11, HO_0, HO_5, HO_7, HO_11, HO_12, HO_250002, BK249, HB⟩ := hcut
      cases kq with
      | zero => exact absurd HA.out (by simp [clerestorylaw1_ActiveTurns.j0])
      | succ kj11 =>
       have H := HA.out
       clear HA
       simp only [clerestorylaw1_ActiveTurns.j0] at H
       have HC32 := aS H
       clear H
       go_upto_if 44 with (fail)
       go_cut [12] (fun v12 wc => ∃ (kq : Nat) (x12_31 : List (S25)), Aside0 (clerestorylaw1_ActiveTurns.j1 kq y250 t255 t258 t259 t262 t263 t276 x11_11 x12_31 = some r) ∧ Aside0 (kq ≤ kj11) ∧ Aside0 (Kd.V k25 25 wc w.heap.size (fun k_ => ((P0_ k_ ∨ P1_2_ k_) ∨ w.heap.size ≤ k_) ∧ some k_ ≠ (v256 : Value).ownBlock ∧ some k_ ≠ (u11 : Value).ownBlock ∧ some k_ ≠ (v12 : Value).ownBlock ∧ k_ ≠ gb249) (.slice A0 y250.length c0) y250) ∧ Aside0 (Kd.N k25 25 wc w.heap.size (fun k_ => ((P0_ k_ ∨ P1_2_ k_) ∨ w.heap.size ≤ k_) ∧ some k_ ≠ (u11 : Value).ownBlock ∧ some k_ ≠ (v12 : Value).ownBlock ∧ k_ ≠ gb249) v256 t255) ∧ Aside0 (Kd.V k25 25 wc w.heap.size (fun k_ => ((P0_ k_ ∨ P1_2_ k_) ∨ w.heap.size ≤ k_) ∧ some k_ ≠ (v256 : Value).ownBlock ∧ some k_ ≠ (u11 : Value).ownBlock ∧ some k_ ≠ (v12 : Value).ownBlock ∧ k_ ≠ gb249) v260 t259) ∧ Aside0 (Kd.N k25 25 wc w.heap.size (fun k_ => ((P0_ k_ ∨ P1_2_ k_) ∨ w.heap.size ≤ k_) ∧ some k_ ≠ (v256 : Value).ownBlock ∧ some k_ ≠ (v12 : Value).ownBlock ∧ k_ ≠ gb249) u11 x11_11) ∧ Aside0 (Kd.N k25 25 wc w.heap.size (fun k_ => ((P0_ k_ ∨ P1_2_ k_) ∨ w.heap.size ≤ k_) ∧ some k_ ≠ (v256 : Value).ownBlock ∧ some k_ ≠ (u11 : Value).ownBlock ∧ k_ ≠ gb249) v12 x12_31) ∧ Aside0 (Kd.V k99 99 wc w.heap.size (fun k_ => ((P0_ k_ ∨ P1_2_ k_) ∨ w.heap.size ≤ k_) ∧ some k_ ≠ (v256 : Value).ownBlock ∧ some k_ ≠ (u11 : Value).ownBlock ∧ some k_ ≠ (v12 : Value).ownBlock ∧ k_ ≠ gb249) (.slice A1_2 l1_2.length c1_2) l1_2) ∧ Aside0 (wc.heap[gb249]? = some (.cells #[.int .i64 a1_0, .string a1_1, (.slice A1_2 l1_2.length c1_2)] 25 (0, 0))) ∧ Aside0 (Below w.heap.size w wc))
       case first =>
        have H := HC32.out
        clear HC32
        by_cases c33 : t263 = 0
        ·rw [if_pos c33] at H
         have c33b0 : (t263 == 0) = true := beq_iff_eq.mpr c33
         have c33b1 : (t263 != 0) = false := bne_eq_false_iff_eq.mpr c33
         clear c33
         (first | rw [c33b0] | (simp only [i64_w, i32_w]; rw [c33b0]) | skip)
         replace H := Option.bind_eq_some_iff.mp H
         obtain ⟨t280, A340, H⟩ := H
         replace H : (clerestorylaw1_ActiveTurns.j1 kj11 y250 t255 t258 t259 t262 t263 t276 x11_11 t280) = some r := H
         have A34 := aS A340
         clear A340
         have H' := aS H
         clear H
         go_wp2_with (first | ((with_reducible refine gate_callee (f := 14) rfl ?_); refine goesL_ (some 46) rfl rfl Try.func14 (by kernel_rfl) rfl #[.slice A0 y250.length c0] rfl (by (try simp only [List.map_toArray, List.map_cons, List.map_nil]); first | done | rfl | (simp only [List.length_drop, List.length_take]; rfl)) ?_; (with_reducible refine (clerestoryref1_ActiveClear.calls kj11 (fun k_ => (((P0_ k_ ∨ P1_2_ k_) ∨ w.heap.size ≤ k_) ∧ (some k_ ≠ (v256 : Value).ownBlock ∧ (some k_ ≠ (u11 : Value).ownBlock ∧ (some k_ ≠ (.slice none 0 0 : Value).ownBlock ∧ k_ ≠ gb249))))) _ _ y250 t280 _ ?side1 A34.out).mono ?_); (case side1 => exact HO_0.out); rintro e w35 ⟨v281, rfl, ho0, hb⟩; refine ⟨_, rfl, ?_⟩; have n0_ := aS (Kd.V_elder' (by (with_reducible repeat (first | apply vA | apply vN | apply vD)); exact HO_0.out) (Kd.N_base ho0) hb); have n1_ := aS (Kd.N_elder' (by (with_reducible repeat (first | apply nA | apply nN | apply nD)); exact HO_5.out) (Kd.N_base ho0) hb); have n2_ := aS (Kd.V_elder' (by (with_reducible repeat (first | apply vA | apply vN | apply vD)); exact HO_7.out) (Kd.N_base ho0) hb); have n3_ := aS (Kd.N_elder' (by (with_reducible repeat (first | apply nA | apply nN | apply nD)); exact HO_11.out) (Kd.N_base ho0) hb); have n4_ := aS (Kd.N_elder' (by (with_reducible repeat (first | apply nA | apply nN | apply nD)); exact HO_12.out) (Kd.N_base ho0) hb); have n5_ := aS (Kd.V_elder' (by (with_reducible repeat (first | apply vA | apply vN | apply vD)); exact HO_250002.out) (Kd.N_base ho0) hb); have n6_ := aS (Kd.N_lower (Kd.N_mono (ok' := fun k_ => ((P0_ k_ ∨ P1_2_ k_) ∨ w.heap.size ≤ k_) ∧ some k_ ≠ (v256 : Value).ownBlock ∧ some k_ ≠ (u11 : Value).ownBlock ∧ some k_ ≠ (.slice none 0 0 : Value).ownBlock ∧ k_ ≠ gb249) ho0 (fun k_ hk_ => ⟨Or.elim hk_ (fun hs_ => hs_.1) (fun hn_ => (.inr (Nat.le_trans (below_size (by repeat (first | (with_reducible first | exact HB.out | apply bA | apply bN | apply bD | refine bS ?_ GE249.out) | exact HB.out))) hn_))), Or.elim hk_ (fun hs_ => hs_.2.1) (fun hn_ => (Kd.fresh' (Kd.N_lt (by (with_reducible repeat (first | apply nA | apply nN | apply nD)); exact HO_5.out)) k_ hn_)), Or.elim hk_ (fun hs_ => hs_.2.2.1) (fun hn_ => (Kd.fresh' (Kd.N_lt (by (with_reducible repeat (first | apply nA | apply nN | apply nD)); exact HO_11.out)) k_ hn_)), Or.elim hk_ (fun hs_ => hs_.2.2.2.1) (fun hn_ => (Kd.fresh' (Kd.N_lt (by (with_reducible repeat (first | apply nA | apply nN | apply nD)); exact HO_12.out)) k_ hn_)), Or.elim hk_ (fun hs_ => hs_.2.2.2.2) (fun hn_ => (Kd.freshB (g := gb249) (o := .cells #[.int .i64 a1_0, .string a1_1, .slice A1_2 l1_2.length c1_2] 25 (0, 0)) (by (with_reducible repeat (first | refine kN ?_ _ | refine kD ?_ | refine kA ?_ _)); exact BK249.out) k_ hn_))⟩)) (below_size (by repeat (first | (with_reducible first | exact HB.out | apply bA | apply bN | apply bD | refine bS ?_ GE249.out) | exact HB.out)))); have n7_ := aS (blk_below (g := gb249) (o := .cells #[.int .i64 a1_0, .string a1_1, .slice A1_2 l1_2.length c1_2] 25 (0, 0)) (by (with_reducible repeat (first | refine kN ?_ _ | refine kD ?_ | refine kA ?_ _)); exact BK249.out) hb); have n8_ := aS (below_step (by repeat (first | (with_reducible first | exact HB.out | apply bA | apply bN | apply bD | refine bS ?_ GE249.out) | exact HB.out)) hb); clear HO_0; clear HO_5; clear HO_7; clear HO_11; clear HO_12; clear HO_250002; clear BK249; clear HB; have HO_0 := n0_; have HO_5 := n1_; have HO_7 := n2_; have HO_11 := n3_; have HO_12 := n4_; have HO_250002 := n5_; have HO282 := n6_; have BK249 := n7_; have HB := n8_; clear n0_ n1_ n2_ n3_ n4_ n5_ n6_ n7_ n8_; (try clear hb); (try clear hb2); (try clear hk); (try clear hi); (try clear ho0)))
         go_meet
         case rel => exact ⟨_, (t280), H', ⟨by have := HJ11.out; first | omega | exact Nat.le_refl _⟩, ⟨by (with_reducible repeat (first | apply vA | apply vN | apply vD)); exact Kd.V_mono HO_0.out (fun _ hk => ⟨hk.1.1, ⟨hk.1.2.1, ⟨hk.1.2.2.1, ⟨hk.2, hk.1.2.2.2.2⟩⟩⟩⟩)⟩, ⟨by (with_reducible repeat (first | apply nA | apply nN | apply nD)); exact Kd.N_mono HO_5.out (fun _ hk => ⟨hk.1.1, ⟨hk.1.2.1, ⟨hk.2, hk.1.2.2.2⟩⟩⟩)⟩, ⟨by (with_reducible repeat (first | apply vA | apply vN | apply vD)); exact Kd.V_mono HO_7.out (fun _ hk => ⟨hk.1.1, ⟨hk.1.2.1, ⟨hk.1.2.2.1, ⟨hk.2, hk.1.2.2.2.2⟩⟩⟩⟩)⟩, ⟨by (with_reducible repeat (first | apply nA | apply nN | apply nD)); exact Kd.N_mono HO_11.out (fun _ hk => ⟨hk.1.1, ⟨hk.1.2.1, ⟨hk.2, hk.1.2.2.2⟩⟩⟩)⟩, ⟨by (with_reducible repeat (first | apply nA | apply nN | apply nD)); exact Kd.N_mono HO282.out (fun _ hk => ⟨hk.1, ⟨hk.2.1, ⟨hk.2.2.1, hk.2.2.2.2⟩⟩⟩)⟩, ⟨by (with_reducible repeat (first | apply vA | apply vN | apply vD)); exact Kd.V_mono HO_250002.out (fun _ hk => ⟨hk.1.1, ⟨hk.1.2.1, ⟨hk.1.2.2.1, ⟨hk.2, hk.1.2.2.2.2⟩⟩⟩⟩)⟩, ⟨by (with_reducible repeat (first | refine kN ?_ _ | refine kD ?_ | refine kA ?_ _)); exact BK249.out⟩, ⟨by repeat (first | (with_reducible first | exact HB.out | apply bA | apply bN | apply bD | refine bS ?_ GE249.out) | exact HB.out)⟩⟩
        ·rw [if_neg c33] at H
         have c33b0 : (t263 == 0) = false := beq_eq_false_iff_ne.mpr c33
         have c33b1 : (t263 != 0) = true := bne_iff_ne.mpr c33
         (first | rw [c33b0] | (simp only [i64_w, i32_w]; rw [c33b0]) | skip)
         have H' := aS H
         clear H
         go_wp2
         go_meet
         case rel => exact ⟨_, (([] : List (S25))), H', ⟨by have := HJ11.out; first | omega | exact Nat.le_refl _⟩, ⟨by (with_reducible repeat (first | apply vA | apply vN | apply vD)); exact HO_0.out⟩, ⟨by (with_reducible repeat (first | apply nA | apply nN | apply nD)); exact HO_5.out⟩, ⟨by (with_reducible repeat (first | apply vA | apply vN | apply vD)); exact HO_7.out⟩, ⟨by (with_reducible repeat (first | apply nA | apply nN | apply nD)); exact HO_11.out⟩, ⟨by (with_reducible repeat (first | apply nA | apply nN | apply nD)); exact HO_12.out⟩, ⟨by (with_reducible repeat (first | apply vA | apply vN | apply vD)); exact HO_250002.out⟩, ⟨by (with_reducible repeat (first | refine kN ?_ _ | refine kD ?_ | refine kA ?_ _)); exact BK249.out⟩, ⟨by repeat (first | (with_reducible first | exact HB.out | apply bA | apply bN | apply bD | refine bS ?_ GE249.out) | exact HB.out)⟩⟩
       case rest =>
        clear HC32
        try clear c1
        try clear c2
        try clear p2
        try clear c3
        try clear c9
        try clear c10
        try clear c12
        try clear c13
        try clear c14
        try clear c28
        try clear c28b0
        try clear c28b1
        try clear c33
        try clear c33b0
        try clear c33b1
        try clear hcz30_0
        try clear hcz30_1
        try clear hcz30_2
        try clear hfz30_0
        try clear hfz30_1
        try clear hfz30_2
        try clear p2
        obtain ⟨kq, x12_31, HA, HJ31, HO_0, HO_5, HO_7, HO_11, HO_12, HO_250002, BK249, HB⟩ := hcut
        cases kq with
        | zero => exact absurd HA.out (by simp [clerestorylaw1_ActiveTurns.j1])
        | succ kj31 =>
         have H := HA.out
         clear HA
         simp only [clerestorylaw1_ActiveTurns.j1] at H
         replace H := Option.bind_eq_some_iff.mp H
         obtain ⟨t283, A360, H⟩ := H
         replace H : (if t283 = true then ((active_Check.f y250).bind fun t284 => (if t284 = t263 then ((clerestoryref1_SameItems.f kj31 t255 x11_11).bind fun t285 => (if t285 = true then (if t258 = t276 then ((clerestoryref1_SameItems.f kj31 t259 x12_31).bind fun t286 => (if t286 = true then (some (t262 == t263)) else (some false))) else (some false)) else (some false))) else (some false))) else (some false)) = some r := H
         have A36 := aS A360
         clear A360
         by_cases c37 : t283 = true
         ·subst c37
          have H1 : ((active_Check.f y250).bind fun t284 => (if t284 = t263 then ((clerestoryref1_SameItems.f kj31 t255 x11_11).bind fun t285 => (if t285 = true then (if t258 = t276 then ((clerestoryref1_SameItems.f kj31 t259 x12_31).bind fun t286 => (if t286 = true then (some (t262 == t263)) else (some false))) else (some false)) else (some false))) else (some false))) = some r := by rw [if_pos rfl] at H; exact H
          clear H
          have H := H1
          clear H1
          replace H := Option.bind_eq_some_iff.mp H
          obtain ⟨t284, A380, H⟩ := H
          replace H : (if t284 = t263 then ((clerestoryref1_SameItems.f kj31 t255 x11_11).bind fun t285 => (if t285 = true then (if t258 = t276 then ((clerestoryref1_SameItems.f kj31 t259 x12_31).bind fun t286 => (if t286 = true then (some (t262 == t263)) else (some false))) else (some false)) else (some false))) else (some false)) = some r := H
          have A38 := aS A380
          clear A380
          by_cases c39 : t284 = t263
          ·rw [if_pos c39] at H
           have c39b0 : (t284 == t263) = true := beq_iff_eq.mpr c39
           have c39b1 : (t284 != t263) = false := bne_eq_false_iff_eq.mpr c39
           clear c39
           replace H := Option.bind_eq_some_iff.mp H
           obtain ⟨t285, A400, H⟩ := H
           replace H : (if t285 = true then (if t258 = t276 then ((clerestoryref1_SameItems.f kj31 t259 x12_31).bind fun t286 => (if t286 = true then (some (t262 == t263)) else (some false))) else (some false)) else (some false)) = some r := H
           have A40 := aS A400
           clear A400
           by_cases c41 : t285 = true
           ·subst c41
            have H1 : (if t258 = t276 then ((clerestoryref1_SameItems.f kj31 t259 x12_31).bind fun t286 => (if t286 = true then (some (t262 == t263)) else (some false))) else (some false)) = some r := by rw [if_pos rfl] at H; exact H
            clear H
            have H := H1
            clear H1
            by_cases c42 : t258 = t276
            ·rw [if_pos c42] at H
             have c42b0 : (t258 == t276) = true := beq_iff_eq.mpr c42
             have c42b1 : (t258 != t276) = false := bne_eq_false_iff_eq.mpr c42
             clear c42
             replace H := Option.bind_eq_some_iff.mp H
             obtain ⟨t286, A430, H⟩ := H
             replace H : (if t286 = true then (some (t262 == t263)) else (some false)) = some r := H
             have A43 := aS A430
             clear A430
             by_cases c44 : t286 = true
             ·subst c44
              have H1 : (some (t262 == t263)) = some r := by rw [if_pos rfl] at H; exact H
              clear H
              have H := H1
              clear H1
              obtain rfl := Option.some.inj H
              go_wp2_with (first | ((with_reducible refine gate_callee (f := 15) rfl ?_); refine goesL_ (some 47) rfl rfl Try.func15 (by kernel_rfl) rfl #[] rfl (by (try simp only [List.map_toArray, List.map_cons, List.map_nil]); first | done | rfl | (simp only [List.length_drop, List.length_take]; rfl)) ?_; (with_reducible refine (clerestorylaw1_activeBegun.calls kj31  true _ A36.out).mono ?_); rintro e w45 ⟨rfl, hb⟩; refine ⟨_, rfl, ?_⟩; have n0_ := aS (Kd.V_below (by (with_reducible repeat (first | apply vA | apply vN | apply vD)); exact HO_0.out) hb); have n1_ := aS (Kd.N_below (by (with_reducible repeat (first | apply nA | apply nN | apply nD)); exact HO_5.out) hb); have n2_ := aS (Kd.V_below (by (with_reducible repeat (first | apply vA | apply vN | apply vD)); exact HO_7.out) hb); have n3_ := aS (Kd.N_below (by (with_reducible repeat (first | apply nA | apply nN | apply nD)); exact HO_11.out) hb); have n4_ := aS (Kd.N_below (by (with_reducible repeat (first | apply nA | apply nN | apply nD)); exact HO_12.out) hb); have n5_ := aS (Kd.V_below (by (with_reducible repeat (first | apply vA | apply vN | apply vD)); exact HO_250002.out) hb); have n6_ := aS (blk_below (g := gb249) (o := .cells #[.int .i64 a1_0, .string a1_1, .slice A1_2 l1_2.length c1_2] 25 (0, 0)) (by (with_reducible repeat (first | refine kN ?_ _ | refine kD ?_ | refine kA ?_ _)); exact BK249.out) hb); have n7_ := aS (below_step (by repeat (first | (with_reducible first | exact HB.out | apply bA | apply bN | apply bD | refine bS ?_ GE249.out) | exact HB.out)) hb); clear HO_0; clear HO_5; clear HO_7; clear HO_11; clear HO_12; clear HO_250002; clear BK249; clear HB; have HO_0 := n0_; have HO_5 := n1_; have HO_7 := n2_; have HO_11 := n3_; have HO_12 := n4_; have HO_250002 := n5_; have BK249 := n6_; have HB := n7_; clear n0_ n1_ n2_ n3_ n4_ n5_ n6_ n7_; (try clear hb); (try clear hb2); (try clear hk); (try clear hi)) | (go_at_call 16; (with_reducible refine (active_Check.calls _ _ y250 t284 _ ?side1 ?side2 A38.out).mono ?_); (case side1 => repeat (first | exact (Kd.V_reads' HO_0.out).2.2 | (with_reducible refine cA ?_ _) | (with_reducible refine cN ?_ _) | (with_reducible refine cD ?_))); (case side2 => exact (Kd.V_reads' HO_0.out).2.1); rintro e w46 ⟨rfl, hb⟩; have n0_ := aS (Kd.V_below (by (with_reducible repeat (first | apply vA | apply vN | apply vD)); exact HO_0.out) hb); have n1_ := aS (Kd.N_below (by (with_reducible repeat (first | apply nA | apply nN | apply nD)); exact HO_5.out) hb); have n2_ := aS (Kd.V_below (by (with_reducible repeat (first | apply vA | apply vN | apply vD)); exact HO_7.out) hb); have n3_ := aS (Kd.N_below (by (with_reducible repeat (first | apply nA | apply nN | apply nD)); exact HO_11.out) hb); have n4_ := aS (Kd.N_below (by (with_reducible repeat (first | apply nA | apply nN | apply nD)); exact HO_12.out) hb); have n5_ := aS (Kd.V_below (by (with_reducible repeat (first | apply vA | apply vN | apply vD)); exact HO_250002.out) hb); have n6_ := aS (blk_below (g := gb249) (o := .cells #[.int .i64 a1_0, .string a1_1, .slice A1_2 l1_2.length c1_2] 25 (0, 0)) (by (with_reducible repeat (first | refine kN ?_ _ | refine kD ?_ | refine kA ?_ _)); exact BK249.out) hb); have n7_ := aS (below_step (by repeat (first | (with_reducible first | exact HB.out | apply bA | apply bN | apply bD | refine bS ?_ GE249.out) | exact HB.out)) hb); clear HO_0; clear HO_5; clear HO_7; clear HO_11; clear HO_12; clear HO_250002; clear BK249; clear HB; have HO_0 := n0_; have HO_5 := n1_; have HO_7 := n2_; have HO_11 := n3_; have HO_12 := n4_; have HO_250002 := n5_; have BK249 := n6_; have HB := n7_; clear n0_ n1_ n2_ n3_ n4_ n5_ n6_ n7_; (try clear hb); (try clear hb2); (try clear hk); (try clear hi); obtain ⟨Ao47, co47, eo47⟩ := Kd.N_slice HO_5.out; subst eo47; obtain ⟨Ao48, co48, eo48⟩ := Kd.N_slice HO_11.out; subst eo48) | (go_at_call 17; (with_reducible refine (clerestoryref1_SameItems.calls kj31 _ _ t255 _ _ x11_11 true _ ?side1 ?side2 ?side3 ?side4 A40.out).mono ?_); (case side1 => repeat (first | exact (Kd.N_reads' HO_5.out).2.2 | (with_reducible refine cA ?_ _) | (with_reducible refine cN ?_ _) | (with_reducible refine cD ?_))); (case side2 => exact (Kd.N_reads' HO_5.out).2.1); (case side3 => repeat (first | exact (Kd.N_reads' HO_11.out).2.2 | (with_reducible refine cA ?_ _) | (with_reducible refine cN ?_ _) | (with_reducible refine cD ?_))); (case side4 => exact (Kd.N_reads' HO_11.out).2.1); rintro e w49 ⟨rfl, hb⟩; have n0_ := aS (Kd.V_below (by (with_reducible repeat (first | apply vA | apply vN | apply vD)); exact HO_0.out) hb); have n1_ := aS (Kd.N_below (by (with_reducible repeat (first | apply nA | apply nN | apply nD)); exact HO_5.out) hb); have n2_ := aS (Kd.V_below (by (with_reducible repeat (first | apply vA | apply vN | apply vD)); exact HO_7.out) hb); have n3_ := aS (Kd.N_below (by (with_reducible repeat (first | apply nA | apply nN | apply nD)); exact HO_11.out) hb); have n4_ := aS (Kd.N_below (by (with_reducible repeat (first | apply nA | apply nN | apply nD)); exact HO_12.out) hb); have n5_ := aS (Kd.V_below (by (with_reducible repeat (first | apply vA | apply vN | apply vD)); exact HO_250002.out) hb); have n6_ := aS (blk_below (g := gb249) (o := .cells #[.int .i64 a1_0, .string a1_1, .slice A1_2 l1_2.length c1_2] 25 (0, 0)) (by (with_reducible repeat (first | refine kN ?_ _ | refine kD ?_ | refine kA ?_ _)); exact BK249.out) hb); have n7_ := aS (below_step (by repeat (first | (with_reducible first | exact HB.out | apply bA | apply bN | apply bD | refine bS ?_ GE249.out) | exact HB.out)) hb); clear HO_0; clear HO_5; clear HO_7; clear HO_11; clear HO_12; clear HO_250002; clear BK249; clear HB; have HO_0 := n0_; have HO_5 := n1_; have HO_7 := n2_; have HO_11 := n3_; have HO_12 := n4_; have HO_250002 := n5_; have BK249 := n6_; have HB := n7_; clear n0_ n1_ n2_ n3_ n4_ n5_ n6_ n7_; (try clear hb); (try clear hb2); (try clear hk); (try clear hi); obtain ⟨Ao50, co50, eo50⟩ := Kd.V_slice HO_7.out; subst eo50; obtain ⟨Ao51, co51, eo51⟩ := Kd.N_slice HO_12.out; subst eo51) | (go_at_call 17; (with_reducible refine (clerestoryref1_SameItems.calls kj31 _ _ t259 _ _ x12_31 true _ ?side1 ?side2 ?side3 ?side4 A43.out).mono ?_); (case side1 => repeat (first | exact (Kd.V_reads' HO_7.out).2.2 | (with_reducible refine cA ?_ _) | (with_reducible refine cN ?_ _) | (with_reducible refine cD ?_))); (case side2 => exact (Kd.V_reads' HO_7.out).2.1); (case side3 => repeat (first | exact (Kd.N_reads' HO_12.out).2.2 | (with_reducible refine cA ?_ _) | (with_reducible refine cN ?_ _) | (with_reducible refine cD ?_))); (case side4 => exact (Kd.N_reads' HO_12.out).2.1); rintro e w52 ⟨rfl, hb⟩; have n0_ := aS (Kd.V_below (by (with_reducible repeat (first | apply vA | apply vN | apply vD)); exact HO_0.out) hb); have n1_ := aS (Kd.N_below (by (with_reducible repeat (first | apply nA | apply nN | apply nD)); exact HO_5.out) hb); have n2_ := aS (Kd.V_below (by (with_reducible repeat (first | apply vA | apply vN | apply vD)); exact HO_7.out) hb); have n3_ := aS (Kd.N_below (by (with_reducible repeat (first | apply nA | apply nN | apply nD)); exact HO_11.out) hb); have n4_ := aS (Kd.N_below (by (with_reducible repeat (first | apply nA | apply nN | apply nD)); exact HO_12.out) hb); have n5_ := aS (Kd.V_below (by (with_reducible repeat (first | apply vA | apply vN | apply vD)); exact HO_250002.out) hb); have n6_ := aS (blk_below (g := gb249) (o := .cells #[.int .i64 a1_0, .string a1_1, .slice A1_2 l1_2.length c1_2] 25 (0, 0)) (by (with_reducible repeat (first | refine kN ?_ _ | refine kD ?_ | refine kA ?_ _)); exact BK249.out) hb); have n7_ := aS (below_step (by repeat (first | (with_reducible first | exact HB.out | apply bA | apply bN | apply bD | refine bS ?_ GE249.out) | exact HB.out)) hb); clear HO_0; clear HO_5; clear HO_7; clear HO_11; clear HO_12; clear HO_250002; clear BK249; clear HB; have HO_0 := n0_; have HO_5 := n1_; have HO_7 := n2_; have HO_11 := n3_; have HO_12 := n4_; have HO_250002 := n5_; have BK249 := n6_; have HB := n7_; clear n0_ n1_ n2_ n3_ n4_ n5_ n6_ n7_; (try clear hb); (try clear hb2); (try clear hk); (try clear hi)))
              go_ret
              exact ⟨by first | rfl | (simp [errW_none, errW_some] <;> rfl) | (simp only [← hji3]; first | rfl | (simp [errW_none, errW_some] <;> rfl)) | (simp [*, errW_none, errW_some] <;> rfl), by repeat (first | (with_reducible first | exact HB.out | apply bA | apply bN | apply bD | refine bS ?_ GE249.out) | exact HB.out)⟩
             ·replace c44 := Bool.eq_false_iff.mpr c44
              subst c44
              have H1 : (some false) = some r := by rw [if_neg (show ¬ (false = true) by decide)] at H; exact H
              clear H
              have H := H1
              clear H1
              obtain rfl := Option.some.inj H
              go_wp2_with (first | ((with_reducible refine gate_callee (f := 15) rfl ?_); refine goesL_ (some 47) rfl rfl Try.func15 (by kernel_rfl) rfl #[] rfl (by (try simp only [List.map_toArray, List.map_cons, List.map_nil]); first | done | rfl | (simp only [List.length_drop, List.length_take]; rfl)) ?_; (with_reducible refine (clerestorylaw1_activeBegun.calls kj31  true _ A36.out).mono ?_); rintro e w53 ⟨rfl, hb⟩; refine ⟨_, rfl, ?_⟩; have n0_ := aS (Kd.V_below (by (with_reducible repeat (first | apply vA | apply vN | apply vD)); exact HO_0.out) hb); have n1_ := aS (Kd.N_below (by (with_reducible repeat (first | apply nA | apply nN | apply nD)); exact HO_5.out) hb); have n2_ := aS (Kd.V_below (by (with_reducible repeat (first | apply vA | apply vN | apply vD)); exact HO_7.out) hb); have n3_ := aS (Kd.N_below (by (with_reducible repeat (first | apply nA | apply nN | apply nD)); exact HO_11.out) hb); have n4_ := aS (Kd.N_below (by (with_reducible repeat (first | apply nA | apply nN | apply nD)); exact HO_12.out) hb); have n5_ := aS (Kd.V_below (by (with_reducible repeat (first | apply vA | apply vN | apply vD)); exact HO_250002.out) hb); have n6_ := aS (blk_below (g := gb249) (o := .cells #[.int .i64 a1_0, .string a1_1, .slice A1_2 l1_2.length c1_2] 25 (0, 0)) (by (with_reducible repeat (first | refine kN ?_ _ | refine kD ?_ | refine kA ?_ _)); exact BK249.out) hb); have n7_ := aS (below_step (by repeat (first | (with_reducible first | exact HB.out | apply bA | apply bN | apply bD | refine bS ?_ GE249.out) | exact HB.out)) hb); clear HO_0; clear HO_5; clear HO_7; clear HO_11; clear HO_12; clear HO_250002; clear BK249; clear HB; have HO_0 := n0_; have HO_5 := n1_; have HO_7 := n2_; have HO_11 := n3_; have HO_12 := n4_; have HO_250002 := n5_; have BK249 := n6_; have HB := n7_; clear n0_ n1_ n2_ n3_ n4_ n5_ n6_ n7_; (try clear hb); (try clear hb2); (try clear hk); (try clear hi)) | (go_at_call 16; (with_reducible refine (active_Check.calls _ _ y250 t284 _ ?side1 ?side2 A38.out).mono ?_); (case side1 => repeat (first | exact (Kd.V_reads' HO_0.out).2.2 | (with_reducible refine cA ?_ _) | (with_reducible refine cN ?_ _) | (with_reducible refine cD ?_))); (case side2 => exact (Kd.V_reads' HO_0.out).2.1); rintro e w54 ⟨rfl, hb⟩; have n0_ := aS (Kd.V_below (by (with_reducible repeat (first | apply vA | apply vN | apply vD)); exact HO_0.out) hb); have n1_ := aS (Kd.N_below (by (with_reducible repeat (first | apply nA | apply nN | apply nD)); exact HO_5.out) hb); have n2_ := aS (Kd.V_below (by (with_reducible repeat (first | apply vA | apply vN | apply vD)); exact HO_7.out) hb); have n3_ := aS (Kd.N_below (by (with_reducible repeat (first | apply nA | apply nN | apply nD)); exact HO_11.out) hb); have n4_ := aS (Kd.N_below (by (with_reducible repeat (first | apply nA | apply nN | apply nD)); exact HO_12.out) hb); have n5_ := aS (Kd.V_below (by (with_reducible repeat (first | apply vA | apply vN | apply vD)); exact HO_250002.out) hb); have n6_ := aS (blk_below (g := gb249) (o := .cells #[.int .i64 a1_0, .string a1_1, .slice A1_2 l1_2.length c1_2] 25 (0, 0)) (by (with_reducible repeat (first | refine kN ?_ _ | refine kD ?_ | refine kA ?_ _)); exact BK249.out) hb); have n7_ := aS (below_step (by repeat (first | (with_reducible first | exact HB.out | apply bA | apply bN | apply bD | refine bS ?_ GE249.out) | exact HB.out)) hb); clear HO_0; clear HO_5; clear HO_7; clear HO_11; clear HO_12; clear HO_250002; clear BK249; clear HB; have HO_0 := n0_; have HO_5 := n1_; have HO_7 := n2_; have HO_11 := n3_; have HO_12 := n4_; have HO_250002 := n5_; have BK249 := n6_; have HB := n7_; clear n0_ n1_ n2_ n3_ n4_ n5_ n6_ n7_; (try clear hb); (try clear hb2); (try clear hk); (try clear hi); obtain ⟨Ao55, co55, eo55⟩ := Kd.N_slice HO_5.out; subst eo55; obtain ⟨Ao56, co56, eo56⟩ := Kd.N_slice HO_11.out; subst eo56) | (go_at_call 17; (with_reducible refine (clerestoryref1_SameItems.calls kj31 _ _ t255 _ _ x11_11 true _ ?side1 ?side2 ?side3 ?side4 A40.out).mono ?_); (case side1 => repeat (first | exact (Kd.N_reads' HO_5.out).2.2 | (with_reducible refine cA ?_ _) | (with_reducible refine cN ?_ _) | (with_reducible refine cD ?_))); (case side2 => exact (Kd.N_reads' HO_5.out).2.1); (case side3 => repeat (first | exact (Kd.N_reads' HO_11.out).2.2 | (with_reducible refine cA ?_ _) | (with_reducible refine cN ?_ _) | (with_reducible refine cD ?_))); (case side4 => exact (Kd.N_reads' HO_11.out).2.1); rintro e w57 ⟨rfl, hb⟩; have n0_ := aS (Kd.V_below (by (with_reducible repeat (first | apply vA | apply vN | apply vD)); exact HO_0.out) hb); have n1_ := aS (Kd.N_below (by (with_reducible repeat (first | apply nA | apply nN | apply nD)); exact HO_5.out) hb); have n2_ := aS (Kd.V_below (by (with_reducible repeat (first | apply vA | apply vN | apply vD)); exact HO_7.out) hb); have n3_ := aS (Kd.N_below (by (with_reducible repeat (first | apply nA | apply nN | apply nD)); exact HO_11.out) hb); have n4_ := aS (Kd.N_below (by (with_reducible repeat (first | apply nA | apply nN | apply nD)); exact HO_12.out) hb); have n5_ := aS (Kd.V_below (by (with_reducible repeat (first | apply vA | apply vN | apply vD)); exact HO_250002.out) hb); have n6_ := aS (blk_below (g := gb249) (o := .cells #[.int .i64 a1_0, .string a1_1, .slice A1_2 l1_2.length c1_2] 25 (0, 0)) (by (with_reducible repeat (first | refine kN ?_ _ | refine kD ?_ | refine kA ?_ _)); exact BK249.out) hb); have n7_ := aS (below_step (by repeat (first | (with_reducible first | exact HB.out | apply bA | apply bN | apply bD | refine bS ?_ GE249.out) | exact HB.out)) hb); clear HO_0; clear HO_5; clear HO_7; clear HO_11; clear HO_12; clear HO_250002; clear BK249; clear HB; have HO_0 := n0_; have HO_5 := n1_; have HO_7 := n2_; have HO_11 := n3_; have HO_12 := n4_; have HO_250002 := n5_; have BK249 := n6_; have HB := n7_; clear n0_ n1_ n2_ n3_ n4_ n5_ n6_ n7_; (try clear hb); (try clear hb2); (try clear hk); (try clear hi); obtain ⟨Ao58, co58, eo58⟩ := Kd.V_slice HO_7.out; subst eo58; obtain ⟨Ao59, co59, eo59⟩ := Kd.N_slice HO_12.out; subst eo59) | (go_at_call 17; (with_reducible refine (clerestoryref1_SameItems.calls kj31 _ _ t259 _ _ x12_31 false _ ?side1 ?side2 ?side3 ?side4 A43.out).mono ?_); (case side1 => repeat (first | exact (Kd.V_reads' HO_7.out).2.2 | (with_reducible refine cA ?_ _) | (with_reducible refine cN ?_ _) | (with_reducible refine cD ?_))); (case side2 => exact (Kd.V_reads' HO_7.out).2.1); (case side3 => repeat (first | exact (Kd.N_reads' HO_12.out).2.2 | (with_reducible refine cA ?_ _) | (with_reducible refine cN ?_ _) | (with_reducible refine cD ?_))); (case side4 => exact (Kd.N_reads' HO_12.out).2.1); rintro e w60 ⟨rfl, hb⟩; have n0_ := aS (Kd.V_below (by (with_reducible repeat (first | apply vA | apply vN | apply vD)); exact HO_0.out) hb); have n1_ := aS (Kd.N_below (by (with_reducible repeat (first | apply nA | apply nN | apply nD)); exact HO_5.out) hb); have n2_ := aS (Kd.V_below (by (with_reducible repeat (first | apply vA | apply vN | apply vD)); exact HO_7.out) hb); have n3_ := aS (Kd.N_below (by (with_reducible repeat (first | apply nA | apply nN | apply nD)); exact HO_11.out) hb); have n4_ := aS (Kd.N_below (by (with_reducible repeat (first | apply nA | apply nN | apply nD)); exact HO_12.out) hb); have n5_ := aS (Kd.V_below (by (with_reducible repeat (first | apply vA | apply vN | apply vD)); exact HO_250002.out) hb); have n6_ := aS (blk_below (g := gb249) (o := .cells #[.int .i64 a1_0, .string a1_1, .slice A1_2 l1_2.length c1_2] 25 (0, 0)) (by (with_reducible repeat (first | refine kN ?_ _ | refine kD ?_ | refine kA ?_ _)); exact BK249.out) hb); have n7_ := aS (below_step (by repeat (first | (with_reducible first | exact HB.out | apply bA | apply bN | apply bD | refine bS ?_ GE249.out) | exact HB.out)) hb); clear HO_0; clear HO_5; clear HO_7; clear HO_11; clear HO_12; clear HO_250002; clear BK249; clear HB; have HO_0 := n0_; have HO_5 := n1_; have HO_7 := n2_; have HO_11 := n3_; have HO_12 := n4_; have HO_250002 := n5_; have BK249 := n6_; have HB := n7_; clear n0_ n1_ n2_ n3_ n4_ n5_ n6_ n7_; (try clear hb); (try clear hb2); (try clear hk); (try clear hi)))
              go_ret
              exact ⟨by first | rfl | (simp [errW_none, errW_some] <;> rfl) | (simp only [← hji3]; first | rfl | (simp [errW_none, errW_some] <;> rfl)) | (simp [*, errW_none, errW_some] <;> rfl), by repeat (first | (with_reducible first | exact HB.out | apply bA | apply bN | apply bD | refine bS ?_ GE249.out) | exact HB.out)⟩
            ·rw [if_neg c42] at H
             have c42b0 : (t258 == t276) = false := beq_eq_false_iff_ne.mpr c42
             have c42b1 : (t258 != t276) = true := bne_iff_ne.mpr c42
             obtain rfl := Option.some.inj H
             go_wp2_with (first | ((with_reducible refine gate_callee (f := 15) rfl ?_); refine goesL_ (some 47) rfl rfl Try.func15 (by kernel_rfl) rfl #[] rfl (by (try simp only [List.map_toArray, List.map_cons, List.map_nil]); first | done | rfl | (simp only [List.length_drop, List.length_take]; rfl)) ?_; (with_reducible refine (clerestorylaw1_activeBegun.calls kj31  true _ A36.out).mono ?_); rintro e w61 ⟨rfl, hb⟩; refine ⟨_, rfl, ?_⟩; have n0_ := aS (Kd.V_below (by (with_reducible repeat (first | apply vA | apply vN | apply vD)); exact HO_0.out) hb); have n1_ := aS (Kd.N_below (by (with_reducible repeat (first | apply nA | apply nN | apply nD)); exact HO_5.out) hb); have n2_ := aS (Kd.V_below (by (with_reducible repeat (first | apply vA | apply vN | apply vD)); exact HO_7.out) hb); have n3_ := aS (Kd.N_below (by (with_reducible repeat (first | apply nA | apply nN | apply nD)); exact HO_11.out) hb); have n4_ := aS (Kd.N_below (by (with_reducible repeat (first | apply nA | apply nN | apply nD)); exact HO_12.out) hb); have n5_ := aS (Kd.V_below (by (with_reducible repeat (first | apply vA | apply vN | apply vD)); exact HO_250002.out) hb); have n6_ := aS (blk_below (g := gb249) (o := .cells #[.int .i64 a1_0, .string a1_1, .slice A1_2 l1_2.length c1_2] 25 (0, 0)) (by (with_reducible repeat (first | refine kN ?_ _ | refine kD ?_ | refine kA ?_ _)); exact BK249.out) hb); have n7_ := aS (below_step (by repeat (first | (with_reducible first | exact HB.out | apply bA | apply bN | apply bD | refine bS ?_ GE249.out) | exact HB.out)) hb); clear HO_0; clear HO_5; clear HO_7; clear HO_11; clear HO_12; clear HO_250002; clear BK249; clear HB; have HO_0 := n0_; have HO_5 := n1_; have HO_7 := n2_; have HO_11 := n3_; have HO_12 := n4_; have HO_250002 := n5_; have BK249 := n6_; have HB := n7_; clear n0_ n1_ n2_ n3_ n4_ n5_ n6_ n7_; (try clear hb); (try clear hb2); (try clear hk); (try clear hi)) | (go_at_call 16; (with_reducible refine (active_Check.calls _ _ y250 t284 _ ?side1 ?side2 A38.out).mono ?_); (case side1 => repeat (first | exact (Kd.V_reads' HO_0.out).2.2 | (with_reducible refine cA ?_ _) | (with_reducible refine cN ?_ _) | (with_reducible refine cD ?_))); (case side2 => exact (Kd.V_reads' HO_0.out).2.1); rintro e w62 ⟨rfl, hb⟩; have n0_ := aS (Kd.V_below (by (with_reducible repeat (first | apply vA | apply vN | apply vD)); exact HO_0.out) hb); have n1_ := aS (Kd.N_below (by (with_reducible repeat (first | apply nA | apply nN | apply nD)); exact HO_5.out) hb); have n2_ := aS (Kd.V_below (by (with_reducible repeat (first | apply vA | apply vN | apply vD)); exact HO_7.out) hb); have n3_ := aS (Kd.N_below (by (with_reducible repeat (first | apply nA | apply nN | apply nD)); exact HO_11.out) hb); have n4_ := aS (Kd.N_below (by (with_reducible repeat (first | apply nA | apply nN | apply nD)); exact HO_12.out) hb); have n5_ := aS (Kd.V_below (by (with_reducible repeat (first | apply vA | apply vN | apply vD)); exact HO_250002.out) hb); have n6_ := aS (blk_below (g := gb249) (o := .cells #[.int .i64 a1_0, .string a1_1, .slice A1_2 l1_2.length c1_2] 25 (0, 0)) (by (with_reducible repeat (first | refine kN ?_ _ | refine kD ?_ | refine kA ?_ _)); exact BK249.out) hb); have n7_ := aS (below_step (by repeat (first | (with_reducible first | exact HB.out | apply bA | apply bN | apply bD | refine bS ?_ GE249.out) | exact HB.out)) hb); clear HO_0; clear HO_5; clear HO_7; clear HO_11; clear HO_12; clear HO_250002; clear BK249; clear HB; have HO_0 := n0_; have HO_5 := n1_; have HO_7 := n2_; have HO_11 := n3_; have HO_12 := n4_; have HO_250002 := n5_; have BK249 := n6_; have HB := n7_; clear n0_ n1_ n2_ n3_ n4_ n5_ n6_ n7_; (try clear hb); (try clear hb2); (try clear hk); (try clear hi); obtain ⟨Ao63, co63, eo63⟩ := Kd.N_slice HO_5.out; subst eo63; obtain ⟨Ao64, co64, eo64⟩ := Kd.N_slice HO_11.out; subst eo64) | (go_at_call 17; (with_reducible refine (clerestoryref1_SameItems.calls kj31 _ _ t255 _ _ x11_11 true _ ?side1 ?side2 ?side3 ?side4 A40.out).mono ?_); (case side1 => repeat (first | exact (Kd.N_reads' HO_5.out).2.2 | (with_reducible refine cA ?_ _) | (with_reducible refine cN ?_ _) | (with_reducible refine cD ?_))); (case side2 => exact (Kd.N_reads' HO_5.out).2.1); (case side3 => repeat (first | exact (Kd.N_reads' HO_11.out).2.2 | (with_reducible refine cA ?_ _) | (with_reducible refine cN ?_ _) | (with_reducible refine cD ?_))); (case side4 => exact (Kd.N_reads' HO_11.out).2.1); rintro e w65 ⟨rfl, hb⟩; have n0_ := aS (Kd.V_below (by (with_reducible repeat (first | apply vA | apply vN | apply vD)); exact HO_0.out) hb); have n1_ := aS (Kd.N_below (by (with_reducible repeat (first | apply nA | apply nN | apply nD)); exact HO_5.out) hb); have n2_ := aS (Kd.V_below (by (with_reducible repeat (first | apply vA | apply vN | apply vD)); exact HO_7.out) hb); have n3_ := aS (Kd.N_below (by (with_reducible repeat (first | apply nA | apply nN | apply nD)); exact HO_11.out) hb); have n4_ := aS (Kd.N_below (by (with_reducible repeat (first | apply nA | apply nN | apply nD)); exact HO_12.out) hb); have n5_ := aS (Kd.V_below (by (with_reducible repeat (first | apply vA | apply vN | apply vD)); exact HO_250002.out) hb); have n6_ := aS (blk_below (g := gb249) (o := .cells #[.int .i64 a1_0, .string a1_1, .slice A1_2 l1_2.length c1_2] 25 (0, 0)) (by (with_reducible repeat (first | refine kN ?_ _ | refine kD ?_ | refine kA ?_ _)); exact BK249.out) hb); have n7_ := aS (below_step (by repeat (first | (with_reducible first | exact HB.out | apply bA | apply bN | apply bD | refine bS ?_ GE249.out) | exact HB.out)) hb); clear HO_0; clear HO_5; clear HO_7; clear HO_11; clear HO_12; clear HO_250002; clear BK249; clear HB; have HO_0 := n0_; have HO_5 := n1_; have HO_7 := n2_; have HO_11 := n3_; have HO_12 := n4_; have HO_250002 := n5_; have BK249 := n6_; have HB := n7_; clear n0_ n1_ n2_ n3_ n4_ n5_ n6_ n7_; (try clear hb); (try clear hb2); (try clear hk); (try clear hi)))
             go_ret
             exact ⟨by first | rfl | (simp [errW_none, errW_some] <;> rfl) | (simp only [← hji3]; first | rfl | (simp [errW_none, errW_some] <;> rfl)) | (simp [*, errW_none, errW_some] <;> rfl), by repeat (first | (with_reducible first | exact HB.out | apply bA | apply bN | apply bD | refine bS ?_ GE249.out) | exact HB.out)⟩
           ·replace c41 := Bool.eq_false_iff.mpr c41
            subst c41
            have H1 : (some false) = some r := by rw [if_neg (show ¬ (false = true) by decide)] at H; exact H
            clear H
            have H := H1
            clear H1
            obtain rfl := Option.some.inj H
            go_wp2_with (first | ((with_reducible refine gate_callee (f := 15) rfl ?_); refine goesL_ (some 47) rfl rfl Try.func15 (by kernel_rfl) rfl #[] rfl (by (try simp only [List.map_toArray, List.map_cons, List.map_nil]); first | done | rfl | (simp only [List.length_drop, List.length_take]; rfl)) ?_; (with_reducible refine (clerestorylaw1_activeBegun.calls kj31  true _ A36.out).mono ?_); rintro e w66 ⟨rfl, hb⟩; refine ⟨_, rfl, ?_⟩; have n0_ := aS (Kd.V_below (by (with_reducible repeat (first | apply vA | apply vN | apply vD)); exact HO_0.out) hb); have n1_ := aS (Kd.N_below (by (with_reducible repeat (first | apply nA | apply nN | apply nD)); exact HO_5.out) hb); have n2_ := aS (Kd.V_below (by (with_reducible repeat (first | apply vA | apply vN | apply vD)); exact HO_7.out) hb); have n3_ := aS (Kd.N_below (by (with_reducible repeat (first | apply nA | apply nN | apply nD)); exact HO_11.out) hb); have n4_ := aS (Kd.N_below (by (with_reducible repeat (first | apply nA | apply nN | apply nD)); exact HO_12.out) hb); have n5_ := aS (Kd.V_below (by (with_reducible repeat (first | apply vA | apply vN | apply vD)); exact HO_250002.out) hb); have n6_ := aS (blk_below (g := gb249) (o := .cells #[.int .i64 a1_0, .string a1_1, .slice A1_2 l1_2.length c1_2] 25 (0, 0)) (by (with_reducible repeat (first | refine kN ?_ _ | refine kD ?_ | refine kA ?_ _)); exact BK249.out) hb); have n7_ := aS (below_step (by repeat (first | (with_reducible first | exact HB.out | apply bA | apply bN | apply bD | refine bS ?_ GE249.out) | exact HB.out)) hb); clear HO_0; clear HO_5; clear HO_7; clear HO_11; clear HO_12; clear HO_250002; clear BK249; clear HB; have HO_0 := n0_; have HO_5 := n1_; have HO_7 := n2_; have HO_11 := n3_; have HO_12 := n4_; have HO_250002 := n5_; have BK249 := n6_; have HB := n7_; clear n0_ n1_ n2_ n3_ n4_ n5_ n6_ n7_; (try clear hb); (try clear hb2); (try clear hk); (try clear hi)) | (go_at_call 16; (with_reducible refine (active_Check.calls _ _ y250 t284 _ ?side1 ?side2 A38.out).mono ?_); (case side1 => repeat (first | exact (Kd.V_reads' HO_0.out).2.2 | (with_reducible refine cA ?_ _) | (with_reducible refine cN ?_ _) | (with_reducible refine cD ?_))); (case side2 => exact (Kd.V_reads' HO_0.out).2.1); rintro e w67 ⟨rfl, hb⟩; have n0_ := aS (Kd.V_below (by (with_reducible repeat (first | apply vA | apply vN | apply vD)); exact HO_0.out) hb); have n1_ := aS (Kd.N_below (by (with_reducible repeat (first | apply nA | apply nN | apply nD)); exact HO_5.out) hb); have n2_ := aS (Kd.V_below (by (with_reducible repeat (first | apply vA | apply vN | apply vD)); exact HO_7.out) hb); have n3_ := aS (Kd.N_below (by (with_reducible repeat (first | apply nA | apply nN | apply nD)); exact HO_11.out) hb); have n4_ := aS (Kd.N_below (by (with_reducible repeat (first | apply nA | apply nN | apply nD)); exact HO_12.out) hb); have n5_ := aS (Kd.V_below (by (with_reducible repeat (first | apply vA | apply vN | apply vD)); exact HO_250002.out) hb); have n6_ := aS (blk_below (g := gb249) (o := .cells #[.int .i64 a1_0, .string a1_1, .slice A1_2 l1_2.length c1_2] 25 (0, 0)) (by (with_reducible repeat (first | refine kN ?_ _ | refine kD ?_ | refine kA ?_ _)); exact BK249.out) hb); have n7_ := aS (below_step (by repeat (first | (with_reducible first | exact HB.out | apply bA | apply bN | apply bD | refine bS ?_ GE249.out) | exact HB.out)) hb); clear HO_0; clear HO_5; clear HO_7; clear HO_11; clear HO_12; clear HO_250002; clear BK249; clear HB; have HO_0 := n0_; have HO_5 := n1_; have HO_7 := n2_; have HO_11 := n3_; have HO_12 := n4_; have HO_250002 := n5_; have BK249 := n6_; have HB := n7_; clear n0_ n1_ n2_ n3_ n4_ n5_ n6_ n7_; (try clear hb); (try clear hb2); (try clear hk); (try clear hi); obtain ⟨Ao68, co68, eo68⟩ := Kd.N_slice HO_5.out; subst eo68; obtain ⟨Ao69, co69, eo69⟩ := Kd.N_slice HO_11.out; subst eo69) | (go_at_call 17; (with_reducible refine (clerestoryref1_SameItems.calls kj31 _ _ t255 _ _ x11_11 false _ ?side1 ?side2 ?side3 ?side4 A40.out).mono ?_); (case side1 => repeat (first | exact (Kd.N_reads' HO_5.out).2.2 | (with_reducible refine cA ?_ _) | (with_reducible refine cN ?_ _) | (with_reducible refine cD ?_))); (case side2 => exact (Kd.N_reads' HO_5.out).2.1); (case side3 => repeat (first | exact (Kd.N_reads' HO_11.out).2.2 | (with_reducible refine cA ?_ _) | (with_reducible refine cN ?_ _) | (with_reducible refine cD ?_))); (case side4 => exact (Kd.N_reads' HO_11.out).2.1); rintro e w70 ⟨rfl, hb⟩; have n0_ := aS (Kd.V_below (by (with_reducible repeat (first | apply vA | apply vN | apply vD)); exact HO_0.out) hb); have n1_ := aS (Kd.N_below (by (with_reducible repeat (first | apply nA | apply nN | apply nD)); exact HO_5.out) hb); have n2_ := aS (Kd.V_below (by (with_reducible repeat (first | apply vA | apply vN | apply vD)); exact HO_7.out) hb); have n3_ := aS (Kd.N_below (by (with_reducible repeat (first | apply nA | apply nN | apply nD)); exact HO_11.out) hb); have n4_ := aS (Kd.N_below (by (with_reducible repeat (first | apply nA | apply nN | apply nD)); exact HO_12.out) hb); have n5_ := aS (Kd.V_below (by (with_reducible repeat (first | apply vA | apply vN | apply vD)); exact HO_250002.out) hb); have n6_ := aS (blk_below (g := gb249) (o := .cells #[.int .i64 a1_0, .string a1_1, .slice A1_2 l1_2.length c1_2] 25 (0, 0)) (by (with_reducible repeat (first | refine kN ?_ _ | refine kD ?_ | refine kA ?_ _)); exact BK249.out) hb); have n7_ := aS (below_step (by repeat (first | (with_reducible first | exact HB.out | apply bA | apply bN | apply bD | refine bS ?_ GE249.out) | exact HB.out)) hb); clear HO_0; clear HO_5; clear HO_7; clear HO_11; clear HO_12; clear HO_250002; clear BK249; clear HB; have HO_0 := n0_; have HO_5 := n1_; have HO_7 := n2_; have HO_11 := n3_; have HO_12 := n4_; have HO_250002 := n5_; have BK249 := n6_; have HB := n7_; clear n0_ n1_ n2_ n3_ n4_ n5_ n6_ n7_; (try clear hb); (try clear hb2); (try clear hk); (try clear hi)))
            go_ret
            exact ⟨by first | rfl | (simp [errW_none, errW_some] <;> rfl) | (simp only [← hji3]; first | rfl | (simp [errW_none, errW_some] <;> rfl)) | (simp [*, errW_none, errW_some] <;> rfl), by repeat (first | (with_reducible first | exact HB.out | apply bA | apply bN | apply bD | refine bS ?_ GE249.out) | exact HB.out)⟩
          ·rw [if_neg c39] at H
           have c39b0 : (t284 == t263) = false := beq_eq_false_iff_ne.mpr c39
           have c39b1 : (t284 != t263) = true := bne_iff_ne.mpr c39
           obtain rfl := Option.some.inj H
           go_wp2_with (first | ((with_reducible refine gate_callee (f := 15) rfl ?_); refine goesL_ (some 47) rfl rfl Try.func15 (by kernel_rfl) rfl #[] rfl (by (try simp only [List.map_toArray, List.map_cons, List.map_nil]); first | done | rfl | (simp only [List.length_drop, List.length_take]; rfl)) ?_; (with_reducible refine (clerestorylaw1_activeBegun.calls kj31  true _ A36.out).mono ?_); rintro e w71 ⟨rfl, hb⟩; refine ⟨_, rfl, ?_⟩; have n0_ := aS (Kd.V_below (by (with_reducible repeat (first | apply vA | apply vN | apply vD)); exact HO_0.out) hb); have n1_ := aS (Kd.N_below (by (with_reducible repeat (first | apply nA | apply nN | apply nD)); exact HO_5.out) hb); have n2_ := aS (Kd.V_below (by (with_reducible repeat (first | apply vA | apply vN | apply vD)); exact HO_7.out) hb); have n3_ := aS (Kd.N_below (by (with_reducible repeat (first | apply nA | apply nN | apply nD)); exact HO_11.out) hb); have n4_ := aS (Kd.N_below (by (with_reducible repeat (first | apply nA | apply nN | apply nD)); exact HO_12.out) hb); have n5_ := aS (Kd.V_below (by (with_reducible repeat (first | apply vA | apply vN | apply vD)); exact HO_250002.out) hb); have n6_ := aS (blk_below (g := gb249) (o := .cells #[.int .i64 a1_0, .string a1_1, .slice A1_2 l1_2.length c1_2] 25 (0, 0)) (by (with_reducible repeat (first | refine kN ?_ _ | refine kD ?_ | refine kA ?_ _)); exact BK249.out) hb); have n7_ := aS (below_step (by repeat (first | (with_reducible first | exact HB.out | apply bA | apply bN | apply bD | refine bS ?_ GE249.out) | exact HB.out)) hb); clear HO_0; clear HO_5; clear HO_7; clear HO_11; clear HO_12; clear HO_250002; clear BK249; clear HB; have HO_0 := n0_; have HO_5 := n1_; have HO_7 := n2_; have HO_11 := n3_; have HO_12 := n4_; have HO_250002 := n5_; have BK249 := n6_; have HB := n7_; clear n0_ n1_ n2_ n3_ n4_ n5_ n6_ n7_; (try clear hb); (try clear hb2); (try clear hk); (try clear hi)) | (go_at_call 16; (with_reducible refine (active_Check.calls _ _ y250 t284 _ ?side1 ?side2 A38.out).mono ?_); (case side1 => repeat (first | exact (Kd.V_reads' HO_0.out).2.2 | (with_reducible refine cA ?_ _) | (with_reducible refine cN ?_ _) | (with_reducible refine cD ?_))); (case side2 => exact (Kd.V_reads' HO_0.out).2.1); rintro e w72 ⟨rfl, hb⟩; have n0_ := aS (Kd.V_below (by (with_reducible repeat (first | apply vA | apply vN | apply vD)); exact HO_0.out) hb); have n1_ := aS (Kd.N_below (by (with_reducible repeat (first | apply nA | apply nN | apply nD)); exact HO_5.out) hb); have n2_ := aS (Kd.V_below (by (with_reducible repeat (first | apply vA | apply vN | apply vD)); exact HO_7.out) hb); have n3_ := aS (Kd.N_below (by (with_reducible repeat (first | apply nA | apply nN | apply nD)); exact HO_11.out) hb); have n4_ := aS (Kd.N_below (by (with_reducible repeat (first | apply nA | apply nN | apply nD)); exact HO_12.out) hb); have n5_ := aS (Kd.V_below (by (with_reducible repeat (first | apply vA | apply vN | apply vD)); exact HO_250002.out) hb); have n6_ := aS (blk_below (g := gb249) (o := .cells #[.int .i64 a1_0, .string a1_1, .slice A1_2 l1_2.length c1_2] 25 (0, 0)) (by (with_reducible repeat (first | refine kN ?_ _ | refine kD ?_ | refine kA ?_ _)); exact BK249.out) hb); have n7_ := aS (below_step (by repeat (first | (with_reducible first | exact HB.out | apply bA | apply bN | apply bD | refine bS ?_ GE249.out) | exact HB.out)) hb); clear HO_0; clear HO_5; clear HO_7; clear HO_11; clear HO_12; clear HO_250002; clear BK249; clear HB; have HO_0 := n0_; have HO_5 := n1_; have HO_7 := n2_; have HO_11 := n3_; have HO_12 := n4_; have HO_250002 := n5_; have BK249 := n6_; have HB := n7_; clear n0_ n1_ n2_ n3_ n4_ n5_ n6_ n7_; (try clear hb); (try clear hb2); (try clear hk); (try clear hi)))
           go_ret
           exact ⟨by first | rfl | (simp [errW_none, errW_some] <;> rfl) | (simp only [← hji3]; first | rfl | (simp [errW_none, errW_some] <;> rfl)) | (simp [*, errW_none, errW_some] <;> rfl), by repeat (first | (with_reducible first | exact HB.out | apply bA | apply bN | apply bD | refine bS ?_ GE249.out) | exact HB.out)⟩
         ·replace c37 := Bool.eq_false_iff.mpr c37
          subst c37
          have H1 : (some false) = some r := by rw [if_neg (show ¬ (false = true) by decide)] at H; exact H
          clear H
          have H := H1
          clear H1
          obtain rfl := Option.some.inj H
          go_wp2_with (first | ((with_reducible refine gate_callee (f := 15) rfl ?_); refine goesL_ (some 47) rfl rfl Try.func15 (by kernel_rfl) rfl #[] rfl (by (try simp only [List.map_toArray, List.map_cons, List.map_nil]); first | done | rfl | (simp only [List.length_drop, List.length_take]; rfl)) ?_; (with_reducible refine (clerestorylaw1_activeBegun.calls kj31  false _ A36.out).mono ?_); rintro e w73 ⟨rfl, hb⟩; refine ⟨_, rfl, ?_⟩; have n0_ := aS (Kd.V_below (by (with_reducible repeat (first | apply vA | apply vN | apply vD)); exact HO_0.out) hb); have n1_ := aS (Kd.N_below (by (with_reducible repeat (first | apply nA | apply nN | apply nD)); exact HO_5.out) hb); have n2_ := aS (Kd.V_below (by (with_reducible repeat (first | apply vA | apply vN | apply vD)); exact HO_7.out) hb); have n3_ := aS (Kd.N_below (by (with_reducible repeat (first | apply nA | apply nN | apply nD)); exact HO_11.out) hb); have n4_ := aS (Kd.N_below (by (with_reducible repeat (first | apply nA | apply nN | apply nD)); exact HO_12.out) hb); have n5_ := aS (Kd.V_below (by (with_reducible repeat (first | apply vA | apply vN | apply vD)); exact HO_250002.out) hb); have n6_ := aS (blk_below (g := gb249) (o := .cells #[.int .i64 a1_0, .string a1_1, .slice A1_2 l1_2.length c1_2] 25 (0, 0)) (by (with_reducible repeat (first | refine kN ?_ _ | refine kD ?_ | refine kA ?_ _)); exact BK249.out) hb); have n7_ := aS (below_step (by repeat (first | (with_reducible first | exact HB.out | apply bA | apply bN | apply bD | refine bS ?_ GE249.out) | exact HB.out)) hb); clear HO_0; clear HO_5; clear HO_7; clear HO_11; clear HO_12; clear HO_250002; clear BK249; clear HB; have HO_0 := n0_; have HO_5 := n1_; have HO_7 := n2_; have HO_11 := n3_; have HO_12 := n4_; have HO_250002 := n5_; have BK249 := n6_; have HB := n7_; clear n0_ n1_ n2_ n3_ n4_ n5_ n6_ n7_; (try clear hb); (try clear hb2); (try clear hk); (try clear hi)))
          go_ret
          exact ⟨by first | rfl | (simp [errW_none, errW_some] <;> rfl) | (simp only [← hji3]; first | rfl | (simp [errW_none, errW_some] <;> rfl)) | (simp [*, errW_none, errW_some] <;> rfl), by repeat (first | (with_reducible first | exact HB.out | apply bA | apply bN | apply bD | refine bS ?_ GE249.out) | exact HB.out)⟩
    ·rw [if_neg c10] at H
     exact absurd H (by simp)
   ·rw [if_neg c9] at H
    exact absurd H (by simp)
  ·rw [if_neg c5] at H
   exact absurd H (by simp)
 ·rw [if_neg c4] at H
  exact absurd H (by simp)

end Go.Proofs.Ythecjfkafpndoaa.XAc
