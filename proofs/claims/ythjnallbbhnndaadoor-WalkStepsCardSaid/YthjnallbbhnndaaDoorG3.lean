/- Written by this session's program (wip/xp) out of the translation as Lean prints it: for each Go function a Lean function and the proof that the code answers just so, on the conditions named in each statement. -/
import Derived.Test.YthjnallbbhnndaaDoorG2
namespace Go.Proofs.YthjnallbbhnndaaDoor.XWk
open Go.Proofs.YthjnallbbhnndaaDoor.Short Go.RowKit Go.Proofs.YthjnallbbhnndaaDoorW.PrintWords Go.Proofs.YthjnallbbhnndaaDoorW.PrintLast Go.Proofs.YthjnallbbhnndaaDoorW.PrintMore
attribute [local go_sem] q27 q25 q2l q2k q1w q1v q26 q24   -- for this text's walks alone
set_option linter.unusedVariables false
set_option linter.unusedSimpArgs false
mutual
def q04.j0 : Nat → ByteArray → Bool → Bool → Option (Bool)
 | 0, _, _, _ => none
 | k + 1, x0, x1, x15 => if x15 = true then (some false) else (q04.l0 k x0 x1 0)
def q04.l0 : Nat → ByteArray → Bool → Int → Option (Bool)
 | 0, _, _, _ => none
 | k + 1, x0, x1, x5 => if x5 < (x0.size : Int) then (if 0 ≤ x5 then (if (bt x0 x5) ≥ 97 then (q04.j2 k x0 x1 x5 (bt x0 x5) (decide ((bt x0 x5) ≤ 122))) else (q04.j2 k x0 x1 x5 (bt x0 x5) false)) else (none)) else (some true)
def q04.j2 : Nat → ByteArray → Bool → Int → Int → Bool → Option (Bool)
 | 0, _, _, _, _, _ => none
 | k + 1, x0, x1, x5, x6, x7 => if x7 = true then (q04.j3 k x0 x1 x5 x6 x7 false) else (if x6 ≥ 48 then (if x6 ≤ 57 then (q04.j3 k x0 x1 x5 x6 x7 false) else (if x6 = 45 then (q04.j3 k x0 x1 x5 x6 x7 false) else (if x6 = 95 then (q04.j3 k x0 x1 x5 x6 x7 false) else (q04.j3 k x0 x1 x5 x6 x7 (x6 != 58))))) else (if x6 = 45 then (q04.j3 k x0 x1 x5 x6 x7 false) else (if x6 = 95 then (q04.j3 k x0 x1 x5 x6 x7 false) else (q04.j3 k x0 x1 x5 x6 x7 (x6 != 58)))))
def q04.j3 : Nat → ByteArray → Bool → Int → Int → Bool → Bool → Option (Bool)
 | 0, _, _, _, _, _, _ => none
 | k + 1, x0, x1, x5, x6, x7, x53 => if x53 = true then (some false) else (if x5 = 0 then (if x7 = true then (q04.l0 k x0 x1 (wrap64 (x5 + 1))) else (if x1 = true then (some false) else (if x6 = 45 then (q04.l0 k x0 x1 (wrap64 (x5 + 1))) else (if x6 = 95 then (q04.l0 k x0 x1 (wrap64 (x5 + 1))) else (some false))))) else (q04.l0 k x0 x1 (wrap64 (x5 + 1))))
end
def q04.f (k : Nat) (a0 : ByteArray) (a1 : Bool) : Option (Bool) := if (a0.size : Int) < 1 then (q04.j0 k a0 a1 true) else (q04.j0 k a0 a1 (decide ((a0.size : Int) > 40)))
theorem q04.mono_l : ∀ k, (∀ y0 y1 y2, LeO (q04.j0 k y0 y1 y2) (q04.j0 (k + 1) y0 y1 y2)) ∧ (∀ y0 y1 y2, LeO (q04.l0 k y0 y1 y2) (q04.l0 (k + 1) y0 y1 y2)) ∧ (∀ y0 y1 y2 y3 y4, LeO (q04.j2 k y0 y1 y2 y3 y4) (q04.j2 (k + 1) y0 y1 y2 y3 y4)) ∧ (∀ y0 y1 y2 y3 y4 y5, LeO (q04.j3 k y0 y1 y2 y3 y4 y5) (q04.j3 (k + 1) y0 y1 y2 y3 y4 y5))
 | 0 => ⟨fun _ _ _ r h => by simp [q04.j0] at h, fun _ _ _ r h => by simp [q04.l0] at h, fun _ _ _ _ _ r h => by simp [q04.j2] at h, fun _ _ _ _ _ _ r h => by simp [q04.j3] at h⟩
 | k + 1 => by
  obtain ⟨ih0, ih1, ih2, ih3⟩ := q04.mono_l k
  refine ⟨?_, ?_, ?_, ?_⟩
  ·intro y0 y1 y2
   unfold q04.j0
   repeat' first
   | (with_reducible exact ih0 _ _ _)
   | (with_reducible exact ih1 _ _ _)
   | (with_reducible exact ih2 _ _ _ _ _)
   | (with_reducible exact ih3 _ _ _ _ _ _)
   | (with_reducible exact LeO.refl _)
   | (with_reducible exact LeO.none _)
   | (with_reducible refine LeO.ite ?_ ?_)
   | (with_reducible refine LeO.bind ?_ (fun _ => ?_))
   | exact ih0 _ _ _
   | exact ih1 _ _ _
   | exact ih2 _ _ _ _ _
   | exact ih3 _ _ _ _ _ _
   | exact LeO.none _
   | refine LeO.ite ?_ ?_
   | refine LeO.bind ?_ (fun _ => ?_)
  ·intro y0 y1 y2
   unfold q04.l0
   repeat' first
   | (with_reducible exact ih0 _ _ _)
   | (with_reducible exact ih1 _ _ _)
   | (with_reducible exact ih2 _ _ _ _ _)
   | (with_reducible exact ih3 _ _ _ _ _ _)
   | (with_reducible exact LeO.refl _)
   | (with_reducible exact LeO.none _)
   | (with_reducible refine LeO.ite ?_ ?_)
   | (with_reducible refine LeO.bind ?_ (fun _ => ?_))
   | exact ih0 _ _ _
   | exact ih1 _ _ _
   | exact ih2 _ _ _ _ _
   | exact ih3 _ _ _ _ _ _
   | exact LeO.none _
   | refine LeO.ite ?_ ?_
   | refine LeO.bind ?_ (fun _ => ?_)
  ·intro y0 y1 y2 y3 y4
   unfold q04.j2
   repeat' first
   | (with_reducible exact ih0 _ _ _)
   | (with_reducible exact ih1 _ _ _)
   | (with_reducible exact ih2 _ _ _ _ _)
   | (with_reducible exact ih3 _ _ _ _ _ _)
   | (with_reducible exact LeO.refl _)
   | (with_reducible exact LeO.none _)
   | (with_reducible refine LeO.ite ?_ ?_)
   | (with_reducible refine LeO.bind ?_ (fun _ => ?_))
   | exact ih0 _ _ _
   | exact ih1 _ _ _
   | exact ih2 _ _ _ _ _
   | exact ih3 _ _ _ _ _ _
   | exact LeO.none _
   | refine LeO.ite ?_ ?_
   | refine LeO.bind ?_ (fun _ => ?_)
  ·intro y0 y1 y2 y3 y4 y5
   unfold q04.j3
   repeat' first
   | (with_reducible exact ih0 _ _ _)
   | (with_reducible exact ih1 _ _ _)
   | (with_reducible exact ih2 _ _ _ _ _)
   | (with_reducible exact ih3 _ _ _ _ _ _)
   | (with_reducible exact LeO.refl _)
   | (with_reducible exact LeO.none _)
   | (with_reducible refine LeO.ite ?_ ?_)
   | (with_reducible refine LeO.bind ?_ (fun _ => ?_))
   | exact ih0 _ _ _
   | exact ih1 _ _ _
   | exact ih2 _ _ _ _ _
   | exact ih3 _ _ _ _ _ _
   | exact LeO.none _
   | refine LeO.ite ?_ ?_
   | refine LeO.bind ?_ (fun _ => ?_)
theorem q04.mono : ∀ a0 a1 k, LeO (q04.f k a0 a1) (q04.f (k + 1) a0 a1) := by
 intro a0 a1 k
 obtain ⟨ih0, ih1, ih2, ih3⟩ := q04.mono_l k
 unfold q04.f
 repeat' first
  | (with_reducible exact ih0 _ _ _)
  | (with_reducible exact ih1 _ _ _)
  | (with_reducible exact ih2 _ _ _ _ _)
  | (with_reducible exact ih3 _ _ _ _ _ _)
  | (with_reducible exact LeO.refl _)
  | (with_reducible exact LeO.none _)
  | (with_reducible refine LeO.ite ?_ ?_)
  | (with_reducible refine LeO.bind ?_ (fun _ => ?_))
  | exact ih0 _ _ _
  | exact ih1 _ _ _
  | exact ih2 _ _ _ _ _
  | exact ih3 _ _ _ _ _ _
  | exact LeO.none _
  | refine LeO.ite ?_ ?_
  | refine LeO.bind ?_ (fun _ => ?_)
set_option maxHeartbeats 8000000 in
set_option maxRecDepth 100000 in
theorem q04.calls (k : Nat) (a0 : ByteArray) (a1 : Bool) (r : Bool) (w : World) (h : q04.f k a0 a1 = some r) :
 Calls Tryd.prog 120 #[.string a0, .bool a1] w fun e w' => e = .returned (.bool r) ∧ Drawn0 w w' := by
 have H : (if (a0.size : Int) < 1 then (q04.j0 k a0 a1 true) else (q04.j0 k a0 a1 (decide ((a0.size : Int) > 40)))) = some r := h
 clear h
 have HC3 := aS H
 clear H
 go_enter Tryd.func120, Tryd.ntmps120
 go_upto_region 1 with (fail)
 go_cut [15] (fun v15 wc => ∃ (kq : Nat) (x15_2 : Bool), v15 = .bool x15_2 ∧ Aside0 (q04.j0 kq a0 a1 x15_2 = some r) ∧ Aside0 (kq ≤ k) ∧ Drawn0 w wc)
 case first =>
  have H := HC3.out
  clear HC3
  by_cases c4 : (a0.size : Int) < 1
  ·rw [if_pos c4] at H
   have c4b0 : decide ((a0.size : Int) < 1) = true := decide_eq_true c4
   have c4b1 : decide (a0.size < 1) = true := decide_eq_true (by omega)
   clear c4
   (first | rw [c4b0] | (simp only [q1e, q1i]; rw [c4b0]) | skip)
   have H' := aS H
   clear H
   go_wp2
   go_meet
   case rel => exact ⟨_, (true), (by first | rfl | (simp; done) | simp [*]), H', ⟨by first | omega | exact Nat.le_refl _⟩, by repeat (first | exact Drawn0.refl _ | apply Drawn0.step)⟩
  ·rw [if_neg c4] at H
   have c4b0 : decide ((a0.size : Int) < 1) = false := decide_eq_false c4
   have c4b1 : decide (a0.size < 1) = false := decide_eq_false (by omega)
   clear c4
   (first | rw [c4b0] | (simp only [q1e, q1i]; rw [c4b0]) | skip)
   have H' := aS H
   clear H
   go_wp2
   go_meet
   case rel => exact ⟨_, (decide ((a0.size : Int) > 40)), (by first | rfl | (simp; done) | simp [*]), H', ⟨by first | omega | exact Nat.le_refl _⟩, by repeat (first | exact Drawn0.refl _ | apply Drawn0.step)⟩
 case rest =>
  clear HC3
  try clear c1
  try clear p2
  try clear c4
  try clear c4b0
  try clear c4b1
  obtain ⟨kq, x15_2, rfl, HA, HJ2, ⟨mc2, rfl⟩⟩ := hcut
  cases kq with
  | zero => exact absurd HA.out (by simp [q04.j0])
  | succ kj2 =>
   have H := HA.out
   clear HA
   simp only [q04.j0] at H
   by_cases c5 : x15_2 = true
   ·subst c5
    have H1 : (some false) = some r := by rw [if_pos rfl] at H; exact H
    clear H
    have H := H1
    clear H1
    obtain rfl := Option.some.inj H
    go_wp2
    go_ret
    exact ⟨by first | rfl | (simp; done) | (simp [*]; done), by repeat (first | exact Drawn0.refl _ | apply Drawn0.step)⟩
   ·replace c5 := Bool.eq_false_iff.mpr c5
    subst c5
    have H1 : (q04.l0 kj2 a0 a1 0) = some r := by rw [if_neg (show ¬ (false = true) by decide)] at H; exact H
    clear H
    have H := H1
    clear H1
    have H' := aS H
    clear H
    go_wp2
    go_loopg [5] kj2 (fun kq v5 w' => ∃ (x5_2 : Int), v5 = .int .i64 x5_2 ∧ Aside0 (q04.l0 kq a0 a1 x5_2 = some r) ∧ Aside0 (kq ≤ kj2) ∧ Drawn0 w w')
    case atStart => exact ⟨(0), (by first | rfl | (simp; done) | simp [*]), H', ⟨Nat.le_refl _⟩, by repeat (first | exact Drawn0.refl _ | apply Drawn0.step)⟩
    case round =>
     clear H'
     try clear c1
     try clear c2
     try clear p2
     try clear c4
     try clear c4b0
     try clear c4b1
     try clear c5
     try clear p2
     obtain ⟨x5_2, rfl, HA, HK2, ⟨m2, rfl⟩⟩ := hrel
     cases gk with
     | zero => exact absurd HA.out (by simp [q04.l0])
     | succ k2 =>
      have H := HA.out
      clear HA
      simp only [q04.l0] at H
      by_cases c6 : x5_2 < (a0.size : Int)
      ·rw [if_pos c6] at H
       have c6b0 : decide (x5_2 < (a0.size : Int)) = true := decide_eq_true c6
       clear c6
       by_cases c7 : 0 ≤ x5_2
       ·rw [if_pos c7] at H
        have c7b0 : decide (0 ≤ x5_2) = true := decide_eq_true c7
        clear c7
        have HC9 := aS H
        clear H
        have p8 : 0 ≤ (x5_2 : Int) := od (by first | (with_reducible assumption) | assumption)
        have q8 : x5_2 < (a0.size : Int) := od (by first | (with_reducible assumption) | assumption)
        have hx8 := bt_at a0 x5_2
        replace p8 := eq_true p8
        replace q8 := eq_true q8
        go_upto_region 7 with (fail)
        go_cut [7] (fun v7 wc => ∃ (kq : Nat) (x7_8 : Bool), v7 = .bool x7_8 ∧ Aside0 (q04.j2 kq a0 a1 x5_2 (bt a0 x5_2) x7_8 = some r) ∧ Aside0 (kq ≤ k2) ∧ Drawn0 w wc)
        case first =>
         have H := HC9.out
         clear HC9
         by_cases c10 : (bt a0 x5_2) ≥ 97
         ·rw [if_pos c10] at H
          have c10b0 : decide (97 ≤ (bt a0 x5_2)) = true := decide_eq_true c10
          clear c10
          (first | rw [c10b0] | (simp only [q1e, q1i]; rw [c10b0]) | skip)
          have H' := aS H
          clear H
          go_wp2
          go_meet
          case rel => exact ⟨_, (decide ((bt a0 x5_2) ≤ 122)), (by first | rfl | (simp; done) | simp [*]), H', ⟨by have := HJ2.out; have := HK2.out; first | omega | exact Nat.le_refl _⟩, by repeat (first | exact Drawn0.refl _ | apply Drawn0.step)⟩
         ·rw [if_neg c10] at H
          have c10b0 : decide (97 ≤ (bt a0 x5_2)) = false := decide_eq_false c10
          clear c10
          (first | rw [c10b0] | (simp only [q1e, q1i]; rw [c10b0]) | skip)
          have H' := aS H
          clear H
          go_wp2
          go_meet
          case rel => exact ⟨_, (false), (by first | rfl | (simp; done) | simp [*]), H', ⟨by have := HJ2.out; have := HK2.out; first | omega | exact Nat.le_refl _⟩, by repeat (first | exact Drawn0.refl _ | apply Drawn0.step)⟩
        case rest =>
         clear HC9
         try clear c1
         try clear c2
         try clear p2
         try clear c4
         try clear c4b0
         try clear c4b1
         try clear c5
         try clear c6
         try clear c6b0
         try clear c7
         try clear c7b0
         try clear p8
         try clear q8
         try clear hx8
         try clear c10
         try clear c10b0
         try clear p2
         try clear p8
         try clear q8
         obtain ⟨kq, x7_8, rfl, HA, HJ8, ⟨mc8, rfl⟩⟩ := hcut
         cases kq with
         | zero => exact absurd HA.out (by simp [q04.j2])
         | succ kj8 =>
          have H := HA.out
          clear HA
          simp only [q04.j2] at H
          have HC11 := aS H
          clear H
          go_upto_region 8 with (fail)
          go_cut [53] (fun v53 wc => ∃ (kq : Nat) (x53_10 : Bool), v53 = .bool x53_10 ∧ Aside0 (q04.j3 kq a0 a1 x5_2 (bt a0 x5_2) x7_8 x53_10 = some r) ∧ Aside0 (kq ≤ kj8) ∧ Drawn0 w wc)
          case first =>
           have H := HC11.out
           clear HC11
           by_cases c12 : x7_8 = true
           ·subst c12
            have H1 : (q04.j3 kj8 a0 a1 x5_2 (bt a0 x5_2) true false) = some r := by rw [if_pos rfl] at H; exact H
            clear H
            have H := H1
            clear H1
            have H' := aS H
            clear H
            go_wp2
            go_meet
            case rel => exact ⟨_, (false), (by first | rfl | (simp; done) | simp [*]), H', ⟨by have := HJ2.out; have := HK2.out; have := HJ8.out; first | omega | exact Nat.le_refl _⟩, by repeat (first | exact Drawn0.refl _ | apply Drawn0.step)⟩
           ·replace c12 := Bool.eq_false_iff.mpr c12
            subst c12
            have H1 : (if (bt a0 x5_2) ≥ 48 then (if (bt a0 x5_2) ≤ 57 then (q04.j3 kj8 a0 a1 x5_2 (bt a0 x5_2) false false) else (if (bt a0 x5_2) = 45 then (q04.j3 kj8 a0 a1 x5_2 (bt a0 x5_2) false false) else (if (bt a0 x5_2) = 95 then (q04.j3 kj8 a0 a1 x5_2 (bt a0 x5_2) false false) else (q04.j3 kj8 a0 a1 x5_2 (bt a0 x5_2) false ((bt a0 x5_2) != 58))))) else (if (bt a0 x5_2) = 45 then (q04.j3 kj8 a0 a1 x5_2 (bt a0 x5_2) false false) else (if (bt a0 x5_2) = 95 then (q04.j3 kj8 a0 a1 x5_2 (bt a0 x5_2) false false) else (q04.j3 kj8 a0 a1 x5_2 (bt a0 x5_2) false ((bt a0 x5_2) != 58))))) = some r := by rw [if_neg (show ¬ (false = true) by decide)] at H; exact H
            clear H
            have H := H1
            clear H1
            by_cases c13 : (bt a0 x5_2) ≥ 48
            ·rw [if_pos c13] at H
             have c13b0 : decide (48 ≤ (bt a0 x5_2)) = true := decide_eq_true c13
             clear c13
             (first | rw [c13b0] | (simp only [q1e, q1i]; rw [c13b0]) | skip)
             by_cases c14 : (bt a0 x5_2) ≤ 57
             ·rw [if_pos c14] at H
              have c14b0 : decide ((bt a0 x5_2) ≤ 57) = true := decide_eq_true c14
              clear c14
              have H' := aS H
              clear H
              go_wp2
              go_meet
              case rel => exact ⟨_, (false), (by first | rfl | (simp; done) | simp [*]), H', ⟨by have := HJ2.out; have := HK2.out; have := HJ8.out; first | omega | exact Nat.le_refl _⟩, by repeat (first | exact Drawn0.refl _ | apply Drawn0.step)⟩
             ·rw [if_neg c14] at H
              have c14b0 : decide ((bt a0 x5_2) ≤ 57) = false := decide_eq_false c14
              clear c14
              by_cases c15 : (bt a0 x5_2) = 45
              ·rw [if_pos c15] at H
               have c15b0 : ((bt a0 x5_2) == 45) = true := beq_iff_eq.mpr c15
               have c15b1 : ((bt a0 x5_2) != 45) = false := bne_eq_false_iff_eq.mpr c15
               clear c15
               have H' := aS H
               clear H
               go_wp2
               go_meet
               case rel => exact ⟨_, (false), (by first | rfl | (simp; done) | simp [*]), H', ⟨by have := HJ2.out; have := HK2.out; have := HJ8.out; first | omega | exact Nat.le_refl _⟩, by repeat (first | exact Drawn0.refl _ | apply Drawn0.step)⟩
              ·rw [if_neg c15] at H
               have c15b0 : ((bt a0 x5_2) == 45) = false := beq_eq_false_iff_ne.mpr c15
               have c15b1 : ((bt a0 x5_2) != 45) = true := bne_iff_ne.mpr c15
               by_cases c16 : (bt a0 x5_2) = 95
               ·rw [if_pos c16] at H
                have c16b0 : ((bt a0 x5_2) == 95) = true := beq_iff_eq.mpr c16
                have c16b1 : ((bt a0 x5_2) != 95) = false := bne_eq_false_iff_eq.mpr c16
                clear c16
                have H' := aS H
                clear H
                go_wp2
                go_meet
                case rel => exact ⟨_, (false), (by first | rfl | (simp; done) | simp [*]), H', ⟨by have := HJ2.out; have := HK2.out; have := HJ8.out; first | omega | exact Nat.le_refl _⟩, by repeat (first | exact Drawn0.refl _ | apply Drawn0.step)⟩
               ·rw [if_neg c16] at H
                have c16b0 : ((bt a0 x5_2) == 95) = false := beq_eq_false_iff_ne.mpr c16
                have c16b1 : ((bt a0 x5_2) != 95) = true := bne_iff_ne.mpr c16
                have H' := aS H
                clear H
                go_wp2
                go_meet
                case rel => exact ⟨_, (((bt a0 x5_2) != 58)), (by first | rfl | (simp; done) | simp [*]), H', ⟨by have := HJ2.out; have := HK2.out; have := HJ8.out; first | omega | exact Nat.le_refl _⟩, by repeat (first | exact Drawn0.refl _ | apply Drawn0.step)⟩
            ·rw [if_neg c13] at H
             have c13b0 : decide (48 ≤ (bt a0 x5_2)) = false := decide_eq_false c13
             clear c13
             (first | rw [c13b0] | (simp only [q1e, q1i]; rw [c13b0]) | skip)
             by_cases c17 : (bt a0 x5_2) = 45
             ·rw [if_pos c17] at H
              have c17b0 : ((bt a0 x5_2) == 45) = true := beq_iff_eq.mpr c17
              have c17b1 : ((bt a0 x5_2) != 45) = false := bne_eq_false_iff_eq.mpr c17
              clear c17
              have H' := aS H
              clear H
              go_wp2
              go_meet
              case rel => exact ⟨_, (false), (by first | rfl | (simp; done) | simp [*]), H', ⟨by have := HJ2.out; have := HK2.out; have := HJ8.out; first | omega | exact Nat.le_refl _⟩, by repeat (first | exact Drawn0.refl _ | apply Drawn0.step)⟩
             ·rw [if_neg c17] at H
              have c17b0 : ((bt a0 x5_2) == 45) = false := beq_eq_false_iff_ne.mpr c17
              have c17b1 : ((bt a0 x5_2) != 45) = true := bne_iff_ne.mpr c17
              by_cases c18 : (bt a0 x5_2) = 95
              ·rw [if_pos c18] at H
               have c18b0 : ((bt a0 x5_2) == 95) = true := beq_iff_eq.mpr c18
               have c18b1 : ((bt a0 x5_2) != 95) = false := bne_eq_false_iff_eq.mpr c18
               clear c18
               have H' := aS H
               clear H
               go_wp2
               go_meet
               case rel => exact ⟨_, (false), (by first | rfl | (simp; done) | simp [*]), H', ⟨by have := HJ2.out; have := HK2.out; have := HJ8.out; first | omega | exact Nat.le_refl _⟩, by repeat (first | exact Drawn0.refl _ | apply Drawn0.step)⟩
              ·rw [if_neg c18] at H
               have c18b0 : ((bt a0 x5_2) == 95) = false := beq_eq_false_iff_ne.mpr c18
               have c18b1 : ((bt a0 x5_2) != 95) = true := bne_iff_ne.mpr c18
               have H' := aS H
               clear H
               go_wp2
               go_meet
               case rel => exact ⟨_, (((bt a0 x5_2) != 58)), (by first | rfl | (simp; done) | simp [*]), H', ⟨by have := HJ2.out; have := HK2.out; have := HJ8.out; first | omega | exact Nat.le_refl _⟩, by repeat (first | exact Drawn0.refl _ | apply Drawn0.step)⟩
          case rest =>
           clear HC11
           try clear c1
           try clear c2
           try clear p2
           try clear c4
           try clear c4b0
           try clear c4b1
           try clear c5
           try clear c6
           try clear c6b0
           try clear c7
           try clear c7b0
           try clear c8
           try clear p8
           try clear q8
           try clear hx8
           try clear c10
           try clear c10b0
           try clear c12
           try clear c13
           try clear c13b0
           try clear c14
           try clear c14b0
           try clear c15
           try clear c15b0
           try clear c15b1
           try clear c16
           try clear c16b0
           try clear c16b1
           try clear c17
           try clear c17b0
           try clear c17b1
           try clear c18
           try clear c18b0
           try clear c18b1
           try clear p2
           try clear p8
           try clear q8
           obtain ⟨kq, x53_10, rfl, HA, HJ10, ⟨mc10, rfl⟩⟩ := hcut
           cases kq with
           | zero => exact absurd HA.out (by simp [q04.j3])
           | succ kj10 =>
            have H := HA.out
            clear HA
            simp only [q04.j3] at H
            by_cases c19 : x53_10 = true
            ·subst c19
             have H1 : (some false) = some r := by rw [if_pos rfl] at H; exact H
             clear H
             have H := H1
             clear H1
             obtain rfl := Option.some.inj H
             go_wp2
             go_ret
             exact ⟨by first | rfl | (simp; done) | (simp [*]; done), by repeat (first | exact Drawn0.refl _ | apply Drawn0.step)⟩
            ·replace c19 := Bool.eq_false_iff.mpr c19
             subst c19
             have H1 : (if x5_2 = 0 then (if x7_8 = true then (q04.l0 kj10 a0 a1 (wrap64 (x5_2 + 1))) else (if a1 = true then (some false) else (if (bt a0 x5_2) = 45 then (q04.l0 kj10 a0 a1 (wrap64 (x5_2 + 1))) else (if (bt a0 x5_2) = 95 then (q04.l0 kj10 a0 a1 (wrap64 (x5_2 + 1))) else (some false))))) else (q04.l0 kj10 a0 a1 (wrap64 (x5_2 + 1)))) = some r := by rw [if_neg (show ¬ (false = true) by decide)] at H; exact H
             clear H
             have H := H1
             clear H1
             by_cases c20 : x5_2 = 0
             ·rw [if_pos c20] at H
              have c20b0 : (x5_2 == 0) = true := beq_iff_eq.mpr c20
              have c20b1 : (x5_2 != 0) = false := bne_eq_false_iff_eq.mpr c20
              clear c20
              by_cases c21 : x7_8 = true
              ·subst c21
               have H1 : (q04.l0 kj10 a0 a1 (wrap64 (x5_2 + 1))) = some r := by rw [if_pos rfl] at H; exact H
               clear H
               have H := H1
               clear H1
               have H' := aS H
               clear H
               go_wp2
               go_roundg kj10
               case measure => have := HJ2.out; have := HK2.out; have := HJ8.out; have := HJ10.out; omega
               case rel => exact ⟨(wrap64 (x5_2 + 1)), (by first | rfl | (simp; done) | simp [*]), H', ⟨by have := HJ2.out; have := HK2.out; have := HJ8.out; have := HJ10.out; omega⟩, by repeat (first | exact Drawn0.refl _ | apply Drawn0.step)⟩
              ·replace c21 := Bool.eq_false_iff.mpr c21
               subst c21
               have H1 : (if a1 = true then (some false) else (if (bt a0 x5_2) = 45 then (q04.l0 kj10 a0 a1 (wrap64 (x5_2 + 1))) else (if (bt a0 x5_2) = 95 then (q04.l0 kj10 a0 a1 (wrap64 (x5_2 + 1))) else (some false)))) = some r := by rw [if_neg (show ¬ (false = true) by decide)] at H; exact H
               clear H
               have H := H1
               clear H1
               by_cases c22 : a1 = true
               ·subst c22
                have H1 : (some false) = some r := by rw [if_pos rfl] at H; exact H
                clear H
                have H := H1
                clear H1
                obtain rfl := Option.some.inj H
                go_wp2
                go_ret
                exact ⟨by first | rfl | (simp; done) | (simp [*]; done), by repeat (first | exact Drawn0.refl _ | apply Drawn0.step)⟩
               ·replace c22 := Bool.eq_false_iff.mpr c22
                subst c22
                have H1 : (if (bt a0 x5_2) = 45 then (q04.l0 kj10 a0 false (wrap64 (x5_2 + 1))) else (if (bt a0 x5_2) = 95 then (q04.l0 kj10 a0 false (wrap64 (x5_2 + 1))) else (some false))) = some r := by rw [if_neg (show ¬ (false = true) by decide)] at H; exact H
                clear H
                have H := H1
                clear H1
                by_cases c23 : (bt a0 x5_2) = 45
                ·rw [if_pos c23] at H
                 have c23b0 : ((bt a0 x5_2) == 45) = true := beq_iff_eq.mpr c23
                 have c23b1 : ((bt a0 x5_2) != 45) = false := bne_eq_false_iff_eq.mpr c23
                 clear c23
                 have H' := aS H
                 clear H
                 go_wp2
                 go_roundg kj10
                 case measure => have := HJ2.out; have := HK2.out; have := HJ8.out; have := HJ10.out; omega
                 case rel => exact ⟨(wrap64 (x5_2 + 1)), (by first | rfl | (simp; done) | simp [*]), H', ⟨by have := HJ2.out; have := HK2.out; have := HJ8.out; have := HJ10.out; omega⟩, by repeat (first | exact Drawn0.refl _ | apply Drawn0.step)⟩
                ·rw [if_neg c23] at H
                 have c23b0 : ((bt a0 x5_2) == 45) = false := beq_eq_false_iff_ne.mpr c23
                 have c23b1 : ((bt a0 x5_2) != 45) = true := bne_iff_ne.mpr c23
                 by_cases c24 : (bt a0 x5_2) = 95
                 ·rw [if_pos c24] at H
                  have c24b0 : ((bt a0 x5_2) == 95) = true := beq_iff_eq.mpr c24
                  have c24b1 : ((bt a0 x5_2) != 95) = false := bne_eq_false_iff_eq.mpr c24
                  clear c24
                  have H' := aS H
                  clear H
                  go_wp2
                  go_roundg kj10
                  case measure => have := HJ2.out; have := HK2.out; have := HJ8.out; have := HJ10.out; omega
                  case rel => exact ⟨(wrap64 (x5_2 + 1)), (by first | rfl | (simp; done) | simp [*]), H', ⟨by have := HJ2.out; have := HK2.out; have := HJ8.out; have := HJ10.out; omega⟩, by repeat (first | exact Drawn0.refl _ | apply Drawn0.step)⟩
                 ·rw [if_neg c24] at H
                  have c24b0 : ((bt a0 x5_2) == 95) = false := beq_eq_false_iff_ne.mpr c24
                  have c24b1 : ((bt a0 x5_2) != 95) = true := bne_iff_ne.mpr c24
                  obtain rfl := Option.some.inj H
                  go_wp2
                  go_ret
                  exact ⟨by first | rfl | (simp; done) | (simp [*]; done), by repeat (first | exact Drawn0.refl _ | apply Drawn0.step)⟩
             ·rw [if_neg c20] at H
              have c20b0 : (x5_2 == 0) = false := beq_eq_false_iff_ne.mpr c20
              have c20b1 : (x5_2 != 0) = true := bne_iff_ne.mpr c20
              have H' := aS H
              clear H
              go_wp2
              go_roundg kj10
              case measure => have := HJ2.out; have := HK2.out; have := HJ8.out; have := HJ10.out; omega
              case rel => exact ⟨(wrap64 (x5_2 + 1)), (by first | rfl | (simp; done) | simp [*]), H', ⟨by have := HJ2.out; have := HK2.out; have := HJ8.out; have := HJ10.out; omega⟩, by repeat (first | exact Drawn0.refl _ | apply Drawn0.step)⟩
       ·rw [if_neg c7] at H
        exact absurd H (by simp)
      ·rw [if_neg c6] at H
       have c6b0 : decide (x5_2 < (a0.size : Int)) = false := decide_eq_false c6
       clear c6
       obtain rfl := Option.some.inj H
       go_wp2
       go_ret
       exact ⟨by first | rfl | (simp; done) | (simp [*]; done), by repeat (first | exact Drawn0.refl _ | apply Drawn0.step)⟩
end Go.Proofs.YthjnallbbhnndaaDoor.XWk
namespace Go.Proofs.YthjnallbbhnndaaDoor.XWk
open Go.Proofs.YthjnallbbhnndaaDoor.Short Go.RowKit Go.Proofs.YthjnallbbhnndaaDoorW.PrintWords Go.Proofs.YthjnallbbhnndaaDoorW.PrintLast Go.Proofs.YthjnallbbhnndaaDoorW.PrintMore
attribute [local go_sem] q27 q25 q2l q2k q1w q1v q26 q24   -- for this text's walks alone
set_option linter.unusedVariables false
set_option linter.unusedSimpArgs false
mutual
def q00.j0 : Nat → Bool → Int → ByteArray → List (S122) → ByteArray → Int → List Int → Option (Int)
 | 0, _, _, _, _, _, _, _ => none
 | k + 1, x59, x199000, x199001, x199002, x199003, x199004, x199005 => if x59 = true then (some 7) else (if x199000 = 2 then ((q04.f k x199001 true).bind fun t200 => (q00.j1 k (!t200) x199000 x199001 x199002 x199003 x199004 x199005)) else (q00.j1 k false x199000 x199001 x199002 x199003 x199004 x199005))
def q00.j1 : Nat → Bool → Int → ByteArray → List (S122) → ByteArray → Int → List Int → Option (Int)
 | 0, _, _, _, _, _, _, _ => none
 | k + 1, x68, x199000, x199001, x199002, x199003, x199004, x199005 => if x68 = true then (some 3) else (if (x199002.length : Int) > 12 then (some 2) else (q00.l0 k 0 x199000 x199001 x199002 x199003 x199004 x199005))
def q00.l0 : Nat → Int → Int → ByteArray → List (S122) → ByteArray → Int → List Int → Option (Int)
 | 0, _, _, _, _, _, _, _ => none
 | k + 1, x3, x199000, x199001, x199002, x199003, x199004, x199005 => if x3 < (x199002.length : Int) then (if 0 ≤ x3 then ((q04.f k ((q0v x199002 x3).f0) false).bind fun t202 => (if t202 = true then (if (((q0v x199002 x3).f1).size : Int) > 400 then (some 2) else (if x3 ≤ (x199002.length : Int) then ((q0h.f k (x199002.take (x3 : Int).toNat) ((q0v x199002 x3).f0)).bind fun bt209 => (if bt209.2 = true then (some 3) else (q00.l0 k (wrap64 (x3 + 1)) x199000 x199001 x199002 x199003 x199004 x199005))) else (none))) else (some 3))) else (none)) else (if (x199003.size : Int) > 400 then (some 2) else (if (x199001.size : Int) > 400 then (some 2) else (some 0)))
end
def q00.f (k : Nat) (a0_0 : Int) (a0_1 : ByteArray) (l0_2 : List (S122)) (a0_3 : ByteArray) (a0_4 : Int) (l0_5 : List Int) : Option (Int) := (q0p.f a0_0 1 5).bind fun t199 => (if t199 = true then (if a0_1.toList = ([] : List UInt8) then (if (l0_2.length : Int) > 0 then (if a0_0 = 2 then (if a0_3.toList = ([] : List UInt8) then (if (l0_5.length : Int) > 0 then (q00.j0 k (decide (a0_0 > 2)) a0_0 a0_1 l0_2 a0_3 a0_4 l0_5) else (q00.j0 k false a0_0 a0_1 l0_2 a0_3 a0_4 l0_5)) else (if a0_0 = 3 then (if (l0_5.length : Int) > 0 then (q00.j0 k (decide (a0_0 > 2)) a0_0 a0_1 l0_2 a0_3 a0_4 l0_5) else (q00.j0 k false a0_0 a0_1 l0_2 a0_3 a0_4 l0_5)) else (if a0_0 = 4 then (if (l0_5.length : Int) > 0 then (q00.j0 k (decide (a0_0 > 2)) a0_0 a0_1 l0_2 a0_3 a0_4 l0_5) else (q00.j0 k false a0_0 a0_1 l0_2 a0_3 a0_4 l0_5)) else (q00.j0 k true a0_0 a0_1 l0_2 a0_3 a0_4 l0_5)))) else (q00.j0 k true a0_0 a0_1 l0_2 a0_3 a0_4 l0_5)) else (if a0_3.toList = ([] : List UInt8) then (if (l0_5.length : Int) > 0 then (q00.j0 k (decide (a0_0 > 2)) a0_0 a0_1 l0_2 a0_3 a0_4 l0_5) else (q00.j0 k false a0_0 a0_1 l0_2 a0_3 a0_4 l0_5)) else (if a0_0 = 3 then (if (l0_5.length : Int) > 0 then (q00.j0 k (decide (a0_0 > 2)) a0_0 a0_1 l0_2 a0_3 a0_4 l0_5) else (q00.j0 k false a0_0 a0_1 l0_2 a0_3 a0_4 l0_5)) else (if a0_0 = 4 then (if (l0_5.length : Int) > 0 then (q00.j0 k (decide (a0_0 > 2)) a0_0 a0_1 l0_2 a0_3 a0_4 l0_5) else (q00.j0 k false a0_0 a0_1 l0_2 a0_3 a0_4 l0_5)) else (q00.j0 k true a0_0 a0_1 l0_2 a0_3 a0_4 l0_5))))) else (if a0_0 = 2 then (if (l0_2.length : Int) > 0 then (if a0_3.toList = ([] : List UInt8) then (if (l0_5.length : Int) > 0 then (q00.j0 k (decide (a0_0 > 2)) a0_0 a0_1 l0_2 a0_3 a0_4 l0_5) else (q00.j0 k false a0_0 a0_1 l0_2 a0_3 a0_4 l0_5)) else (if a0_0 = 3 then (if (l0_5.length : Int) > 0 then (q00.j0 k (decide (a0_0 > 2)) a0_0 a0_1 l0_2 a0_3 a0_4 l0_5) else (q00.j0 k false a0_0 a0_1 l0_2 a0_3 a0_4 l0_5)) else (if a0_0 = 4 then (if (l0_5.length : Int) > 0 then (q00.j0 k (decide (a0_0 > 2)) a0_0 a0_1 l0_2 a0_3 a0_4 l0_5) else (q00.j0 k false a0_0 a0_1 l0_2 a0_3 a0_4 l0_5)) else (q00.j0 k true a0_0 a0_1 l0_2 a0_3 a0_4 l0_5)))) else (if a0_3.toList = ([] : List UInt8) then (if (l0_5.length : Int) > 0 then (q00.j0 k (decide (a0_0 > 2)) a0_0 a0_1 l0_2 a0_3 a0_4 l0_5) else (q00.j0 k false a0_0 a0_1 l0_2 a0_3 a0_4 l0_5)) else (if a0_0 = 3 then (if (l0_5.length : Int) > 0 then (q00.j0 k (decide (a0_0 > 2)) a0_0 a0_1 l0_2 a0_3 a0_4 l0_5) else (q00.j0 k false a0_0 a0_1 l0_2 a0_3 a0_4 l0_5)) else (if a0_0 = 4 then (if (l0_5.length : Int) > 0 then (q00.j0 k (decide (a0_0 > 2)) a0_0 a0_1 l0_2 a0_3 a0_4 l0_5) else (q00.j0 k false a0_0 a0_1 l0_2 a0_3 a0_4 l0_5)) else (q00.j0 k true a0_0 a0_1 l0_2 a0_3 a0_4 l0_5))))) else (if a0_0 = 5 then (if (l0_2.length : Int) > 0 then (q00.j0 k true a0_0 a0_1 l0_2 a0_3 a0_4 l0_5) else (if a0_3.toList = ([] : List UInt8) then (if (l0_5.length : Int) > 0 then (q00.j0 k (decide (a0_0 > 2)) a0_0 a0_1 l0_2 a0_3 a0_4 l0_5) else (q00.j0 k false a0_0 a0_1 l0_2 a0_3 a0_4 l0_5)) else (if a0_0 = 3 then (if (l0_5.length : Int) > 0 then (q00.j0 k (decide (a0_0 > 2)) a0_0 a0_1 l0_2 a0_3 a0_4 l0_5) else (q00.j0 k false a0_0 a0_1 l0_2 a0_3 a0_4 l0_5)) else (if a0_0 = 4 then (if (l0_5.length : Int) > 0 then (q00.j0 k (decide (a0_0 > 2)) a0_0 a0_1 l0_2 a0_3 a0_4 l0_5) else (q00.j0 k false a0_0 a0_1 l0_2 a0_3 a0_4 l0_5)) else (q00.j0 k true a0_0 a0_1 l0_2 a0_3 a0_4 l0_5))))) else (q00.j0 k true a0_0 a0_1 l0_2 a0_3 a0_4 l0_5)))) else (some 7))
theorem q00.mono_l : ∀ k, (∀ y0 y1 y2 y3 y4 y5 y6, LeO (q00.j0 k y0 y1 y2 y3 y4 y5 y6) (q00.j0 (k + 1) y0 y1 y2 y3 y4 y5 y6)) ∧ (∀ y0 y1 y2 y3 y4 y5 y6, LeO (q00.j1 k y0 y1 y2 y3 y4 y5 y6) (q00.j1 (k + 1) y0 y1 y2 y3 y4 y5 y6)) ∧ (∀ y0 y1 y2 y3 y4 y5 y6, LeO (q00.l0 k y0 y1 y2 y3 y4 y5 y6) (q00.l0 (k + 1) y0 y1 y2 y3 y4 y5 y6))
 | 0 => ⟨fun _ _ _ _ _ _ _ r h => by simp [q00.j0] at h, fun _ _ _ _ _ _ _ r h => by simp [q00.j1] at h, fun _ _ _ _ _ _ _ r h => by simp [q00.l0] at h⟩
 | k + 1 => by
  obtain ⟨ih0, ih1, ih2⟩ := q00.mono_l k
  refine ⟨?_, ?_, ?_⟩
  ·intro y0 y1 y2 y3 y4 y5 y6
   unfold q00.j0
   repeat' first
   | (with_reducible exact ih0 _ _ _ _ _ _ _)
   | (with_reducible exact ih1 _ _ _ _ _ _ _)
   | (with_reducible exact ih2 _ _ _ _ _ _ _)
   | (with_reducible exact q0h.mono _ _ _)
   | (with_reducible exact q04.mono _ _ _)
   | (with_reducible exact LeO.refl _)
   | (with_reducible exact LeO.none _)
   | (with_reducible refine LeO.ite ?_ ?_)
   | (with_reducible refine LeO.bind ?_ (fun _ => ?_))
   | exact ih0 _ _ _ _ _ _ _
   | exact ih1 _ _ _ _ _ _ _
   | exact ih2 _ _ _ _ _ _ _
   | exact q0h.mono _ _ _
   | exact q04.mono _ _ _
   | exact LeO.none _
   | refine LeO.ite ?_ ?_
   | refine LeO.bind ?_ (fun _ => ?_)
  ·intro y0 y1 y2 y3 y4 y5 y6
   unfold q00.j1
   repeat' first
   | (with_reducible exact ih0 _ _ _ _ _ _ _)
   | (with_reducible exact ih1 _ _ _ _ _ _ _)
   | (with_reducible exact ih2 _ _ _ _ _ _ _)
   | (with_reducible exact q0h.mono _ _ _)
   | (with_reducible exact q04.mono _ _ _)
   | (with_reducible exact LeO.refl _)
   | (with_reducible exact LeO.none _)
   | (with_reducible refine LeO.ite ?_ ?_)
   | (with_reducible refine LeO.bind ?_ (fun _ => ?_))
   | exact ih0 _ _ _ _ _ _ _
   | exact ih1 _ _ _ _ _ _ _
   | exact ih2 _ _ _ _ _ _ _
   | exact q0h.mono _ _ _
   | exact q04.mono _ _ _
   | exact LeO.none _
   | refine LeO.ite ?_ ?_
   | refine LeO.bind ?_ (fun _ => ?_)
  ·intro y0 y1 y2 y3 y4 y5 y6
   unfold q00.l0
   repeat' first
   | (with_reducible exact ih0 _ _ _ _ _ _ _)
   | (with_reducible exact ih1 _ _ _ _ _ _ _)
   | (with_reducible exact ih2 _ _ _ _ _ _ _)
   | (with_reducible exact q0h.mono _ _ _)
   | (with_reducible exact q04.mono _ _ _)
   | (with_reducible exact LeO.refl _)
   | (with_reducible exact LeO.none _)
   | (with_reducible refine LeO.ite ?_ ?_)
   | (with_reducible refine LeO.bind ?_ (fun _ => ?_))
   | exact ih0 _ _ _ _ _ _ _
   | exact ih1 _ _ _ _ _ _ _
   | exact ih2 _ _ _ _ _ _ _
   | exact q0h.mono _ _ _
   | exact q04.mono _ _ _
   | exact LeO.none _
   | refine LeO.ite ?_ ?_
   | refine LeO.bind ?_ (fun _ => ?_)
theorem q00.mono : ∀ a0 a1 a2 a3 a4 a5 k, LeO (q00.f k a0 a1 a2 a3 a4 a5) (q00.f (k + 1) a0 a1 a2 a3 a4 a5) := by
 intro a0 a1 a2 a3 a4 a5 k
 obtain ⟨ih0, ih1, ih2⟩ := q00.mono_l k
 unfold q00.f
 repeat' first
  | (with_reducible exact ih0 _ _ _ _ _ _ _)
  | (with_reducible exact ih1 _ _ _ _ _ _ _)
  | (with_reducible exact ih2 _ _ _ _ _ _ _)
  | (with_reducible exact q0h.mono _ _ _)
  | (with_reducible exact q04.mono _ _ _)
  | (with_reducible exact LeO.refl _)
  | (with_reducible exact LeO.none _)
  | (with_reducible refine LeO.ite ?_ ?_)
  | (with_reducible refine LeO.bind ?_ (fun _ => ?_))
  | exact ih0 _ _ _ _ _ _ _
  | exact ih1 _ _ _ _ _ _ _
  | exact ih2 _ _ _ _ _ _ _
  | exact q0h.mono _ _ _
  | exact q04.mono _ _ _
  | exact LeO.none _
  | refine LeO.ite ?_ ?_
  | refine LeO.bind ?_ (fun _ => ?_)
set_option maxHeartbeats 8000000 in
set_option maxRecDepth 100000 in
theorem q00.calls (k : Nat) (a0_0 : Int) (a0_1 : ByteArray) (A0_2 : Option Addr) (c0_2 : Nat) (l0_2 : List (S122)) (a0_3 : ByteArray) (a0_4 : Int) (A0_5 : Option Addr) (c0_5 : Nat) (l0_5 : List Int) (r : Int) (w : World) (hr0_2 : Kd.C k122 w A0_2 l0_2.length l0_2) (hc0_2 : l0_2.length ≤ c0_2) (hr0_5 : Kd.C (Kd.int .i64) w A0_5 l0_5.length l0_5) (hc0_5 : l0_5.length ≤ c0_5) (h : q00.f k a0_0 a0_1 l0_2 a0_3 a0_4 l0_5 = some r) :
 Calls Tryd.prog 72 #[.agg #[.int .i64 a0_0, .string a0_1, .slice A0_2 l0_2.length c0_2, .string a0_3, .int .i64 a0_4, .slice A0_5 l0_5.length c0_5]] w fun e w' => e = .returned (.int .i64 r) ∧ Below w.heap.size w w' := by
 have hu43 := Tryd.underlying43
 have HR0_2 := aS hr0_2
 have HC0_2 := aS hc0_2
 clear hr0_2 hc0_2
 have HR0_5 := aS hr0_5
 have HC0_5 := aS hc0_5
 clear hr0_5 hc0_5
 have HB := aS (Below.refl w.heap.size w)
 have H : ((q0p.f a0_0 1 5).bind fun t199 => (if t199 = true then (if a0_1.toList = ([] : List UInt8) then (if (l0_2.length : Int) > 0 then (if a0_0 = 2 then (if a0_3.toList = ([] : List UInt8) then (if (l0_5.length : Int) > 0 then (q00.j0 k (decide (a0_0 > 2)) a0_0 a0_1 l0_2 a0_3 a0_4 l0_5) else (q00.j0 k false a0_0 a0_1 l0_2 a0_3 a0_4 l0_5)) else (if a0_0 = 3 then (if (l0_5.length : Int) > 0 then (q00.j0 k (decide (a0_0 > 2)) a0_0 a0_1 l0_2 a0_3 a0_4 l0_5) else (q00.j0 k false a0_0 a0_1 l0_2 a0_3 a0_4 l0_5)) else (if a0_0 = 4 then (if (l0_5.length : Int) > 0 then (q00.j0 k (decide (a0_0 > 2)) a0_0 a0_1 l0_2 a0_3 a0_4 l0_5) else (q00.j0 k false a0_0 a0_1 l0_2 a0_3 a0_4 l0_5)) else (q00.j0 k true a0_0 a0_1 l0_2 a0_3 a0_4 l0_5)))) else (q00.j0 k true a0_0 a0_1 l0_2 a0_3 a0_4 l0_5)) else (if a0_3.toList = ([] : List UInt8) then (if (l0_5.length : Int) > 0 then (q00.j0 k (decide (a0_0 > 2)) a0_0 a0_1 l0_2 a0_3 a0_4 l0_5) else (q00.j0 k false a0_0 a0_1 l0_2 a0_3 a0_4 l0_5)) else (if a0_0 = 3 then (if (l0_5.length : Int) > 0 then (q00.j0 k (decide (a0_0 > 2)) a0_0 a0_1 l0_2 a0_3 a0_4 l0_5) else (q00.j0 k false a0_0 a0_1 l0_2 a0_3 a0_4 l0_5)) else (if a0_0 = 4 then (if (l0_5.length : Int) > 0 then (q00.j0 k (decide (a0_0 > 2)) a0_0 a0_1 l0_2 a0_3 a0_4 l0_5) else (q00.j0 k false a0_0 a0_1 l0_2 a0_3 a0_4 l0_5)) else (q00.j0 k true a0_0 a0_1 l0_2 a0_3 a0_4 l0_5))))) else (if a0_0 = 2 then (if (l0_2.length : Int) > 0 then (if a0_3.toList = ([] : List UInt8) then (if (l0_5.length : Int) > 0 then (q00.j0 k (decide (a0_0 > 2)) a0_0 a0_1 l0_2 a0_3 a0_4 l0_5) else (q00.j0 k false a0_0 a0_1 l0_2 a0_3 a0_4 l0_5)) else (if a0_0 = 3 then (if (l0_5.length : Int) > 0 then (q00.j0 k (decide (a0_0 > 2)) a0_0 a0_1 l0_2 a0_3 a0_4 l0_5) else (q00.j0 k false a0_0 a0_1 l0_2 a0_3 a0_4 l0_5)) else (if a0_0 = 4 then (if (l0_5.length : Int) > 0 then (q00.j0 k (decide (a0_0 > 2)) a0_0 a0_1 l0_2 a0_3 a0_4 l0_5) else (q00.j0 k false a0_0 a0_1 l0_2 a0_3 a0_4 l0_5)) else (q00.j0 k true a0_0 a0_1 l0_2 a0_3 a0_4 l0_5)))) else (if a0_3.toList = ([] : List UInt8) then (if (l0_5.length : Int) > 0 then (q00.j0 k (decide (a0_0 > 2)) a0_0 a0_1 l0_2 a0_3 a0_4 l0_5) else (q00.j0 k false a0_0 a0_1 l0_2 a0_3 a0_4 l0_5)) else (if a0_0 = 3 then (if (l0_5.length : Int) > 0 then (q00.j0 k (decide (a0_0 > 2)) a0_0 a0_1 l0_2 a0_3 a0_4 l0_5) else (q00.j0 k false a0_0 a0_1 l0_2 a0_3 a0_4 l0_5)) else (if a0_0 = 4 then (if (l0_5.length : Int) > 0 then (q00.j0 k (decide (a0_0 > 2)) a0_0 a0_1 l0_2 a0_3 a0_4 l0_5) else (q00.j0 k false a0_0 a0_1 l0_2 a0_3 a0_4 l0_5)) else (q00.j0 k true a0_0 a0_1 l0_2 a0_3 a0_4 l0_5))))) else (if a0_0 = 5 then (if (l0_2.length : Int) > 0 then (q00.j0 k true a0_0 a0_1 l0_2 a0_3 a0_4 l0_5) else (if a0_3.toList = ([] : List UInt8) then (if (l0_5.length : Int) > 0 then (q00.j0 k (decide (a0_0 > 2)) a0_0 a0_1 l0_2 a0_3 a0_4 l0_5) else (q00.j0 k false a0_0 a0_1 l0_2 a0_3 a0_4 l0_5)) else (if a0_0 = 3 then (if (l0_5.length : Int) > 0 then (q00.j0 k (decide (a0_0 > 2)) a0_0 a0_1 l0_2 a0_3 a0_4 l0_5) else (q00.j0 k false a0_0 a0_1 l0_2 a0_3 a0_4 l0_5)) else (if a0_0 = 4 then (if (l0_5.length : Int) > 0 then (q00.j0 k (decide (a0_0 > 2)) a0_0 a0_1 l0_2 a0_3 a0_4 l0_5) else (q00.j0 k false a0_0 a0_1 l0_2 a0_3 a0_4 l0_5)) else (q00.j0 k true a0_0 a0_1 l0_2 a0_3 a0_4 l0_5))))) else (q00.j0 k true a0_0 a0_1 l0_2 a0_3 a0_4 l0_5)))) else (some 7))) = some r := h
 clear h
 replace H := Option.bind_eq_some_iff.mp H
 obtain ⟨t199, A20, H⟩ := H
 replace H : (if t199 = true then (if a0_1.toList = ([] : List UInt8) then (if (l0_2.length : Int) > 0 then (if a0_0 = 2 then (if a0_3.toList = ([] : List UInt8) then (if (l0_5.length : Int) > 0 then (q00.j0 k (decide (a0_0 > 2)) a0_0 a0_1 l0_2 a0_3 a0_4 l0_5) else (q00.j0 k false a0_0 a0_1 l0_2 a0_3 a0_4 l0_5)) else (if a0_0 = 3 then (if (l0_5.length : Int) > 0 then (q00.j0 k (decide (a0_0 > 2)) a0_0 a0_1 l0_2 a0_3 a0_4 l0_5) else (q00.j0 k false a0_0 a0_1 l0_2 a0_3 a0_4 l0_5)) else (if a0_0 = 4 then (if (l0_5.length : Int) > 0 then (q00.j0 k (decide (a0_0 > 2)) a0_0 a0_1 l0_2 a0_3 a0_4 l0_5) else (q00.j0 k false a0_0 a0_1 l0_2 a0_3 a0_4 l0_5)) else (q00.j0 k true a0_0 a0_1 l0_2 a0_3 a0_4 l0_5)))) else (q00.j0 k true a0_0 a0_1 l0_2 a0_3 a0_4 l0_5)) else (if a0_3.toList = ([] : List UInt8) then (if (l0_5.length : Int) > 0 then (q00.j0 k (decide (a0_0 > 2)) a0_0 a0_1 l0_2 a0_3 a0_4 l0_5) else (q00.j0 k false a0_0 a0_1 l0_2 a0_3 a0_4 l0_5)) else (if a0_0 = 3 then (if (l0_5.length : Int) > 0 then (q00.j0 k (decide (a0_0 > 2)) a0_0 a0_1 l0_2 a0_3 a0_4 l0_5) else (q00.j0 k false a0_0 a0_1 l0_2 a0_3 a0_4 l0_5)) else (if a0_0 = 4 then (if (l0_5.length : Int) > 0 then (q00.j0 k (decide (a0_0 > 2)) a0_0 a0_1 l0_2 a0_3 a0_4 l0_5) else (q00.j0 k false a0_0 a0_1 l0_2 a0_3 a0_4 l0_5)) else (q00.j0 k true a0_0 a0_1 l0_2 a0_3 a0_4 l0_5))))) else (if a0_0 = 2 then (if (l0_2.length : Int) > 0 then (if a0_3.toList = ([] : List UInt8) then (if (l0_5.length : Int) > 0 then (q00.j0 k (decide (a0_0 > 2)) a0_0 a0_1 l0_2 a0_3 a0_4 l0_5) else (q00.j0 k false a0_0 a0_1 l0_2 a0_3 a0_4 l0_5)) else (if a0_0 = 3 then (if (l0_5.length : Int) > 0 then (q00.j0 k (decide (a0_0 > 2)) a0_0 a0_1 l0_2 a0_3 a0_4 l0_5) else (q00.j0 k false a0_0 a0_1 l0_2 a0_3 a0_4 l0_5)) else (if a0_0 = 4 then (if (l0_5.length : Int) > 0 then (q00.j0 k (decide (a0_0 > 2)) a0_0 a0_1 l0_2 a0_3 a0_4 l0_5) else (q00.j0 k false a0_0 a0_1 l0_2 a0_3 a0_4 l0_5)) else (q00.j0 k true a0_0 a0_1 l0_2 a0_3 a0_4 l0_5)))) else (if a0_3.toList = ([] : List UInt8) then (if (l0_5.length : Int) > 0 then (q00.j0 k (decide (a0_0 > 2)) a0_0 a0_1 l0_2 a0_3 a0_4 l0_5) else (q00.j0 k false a0_0 a0_1 l0_2 a0_3 a0_4 l0_5)) else (if a0_0 = 3 then (if (l0_5.length : Int) > 0 then (q00.j0 k (decide (a0_0 > 2)) a0_0 a0_1 l0_2 a0_3 a0_4 l0_5) else (q00.j0 k false a0_0 a0_1 l0_2 a0_3 a0_4 l0_5)) else (if a0_0 = 4 then (if (l0_5.length : Int) > 0 then (q00.j0 k (decide (a0_0 > 2)) a0_0 a0_1 l0_2 a0_3 a0_4 l0_5) else (q00.j0 k false a0_0 a0_1 l0_2 a0_3 a0_4 l0_5)) else (q00.j0 k true a0_0 a0_1 l0_2 a0_3 a0_4 l0_5))))) else (if a0_0 = 5 then (if (l0_2.length : Int) > 0 then (q00.j0 k true a0_0 a0_1 l0_2 a0_3 a0_4 l0_5) else (if a0_3.toList = ([] : List UInt8) then (if (l0_5.length : Int) > 0 then (q00.j0 k (decide (a0_0 > 2)) a0_0 a0_1 l0_2 a0_3 a0_4 l0_5) else (q00.j0 k false a0_0 a0_1 l0_2 a0_3 a0_4 l0_5)) else (if a0_0 = 3 then (if (l0_5.length : Int) > 0 then (q00.j0 k (decide (a0_0 > 2)) a0_0 a0_1 l0_2 a0_3 a0_4 l0_5) else (q00.j0 k false a0_0 a0_1 l0_2 a0_3 a0_4 l0_5)) else (if a0_0 = 4 then (if (l0_5.length : Int) > 0 then (q00.j0 k (decide (a0_0 > 2)) a0_0 a0_1 l0_2 a0_3 a0_4 l0_5) else (q00.j0 k false a0_0 a0_1 l0_2 a0_3 a0_4 l0_5)) else (q00.j0 k true a0_0 a0_1 l0_2 a0_3 a0_4 l0_5))))) else (q00.j0 k true a0_0 a0_1 l0_2 a0_3 a0_4 l0_5)))) else (some 7)) = some r := H
 have A2 := aS A20
 clear A20
 by_cases c3 : t199 = true
 ·subst c3
  have H1 : (if a0_1.toList = ([] : List UInt8) then (if (l0_2.length : Int) > 0 then (if a0_0 = 2 then (if a0_3.toList = ([] : List UInt8) then (if (l0_5.length : Int) > 0 then (q00.j0 k (decide (a0_0 > 2)) a0_0 a0_1 l0_2 a0_3 a0_4 l0_5) else (q00.j0 k false a0_0 a0_1 l0_2 a0_3 a0_4 l0_5)) else (if a0_0 = 3 then (if (l0_5.length : Int) > 0 then (q00.j0 k (decide (a0_0 > 2)) a0_0 a0_1 l0_2 a0_3 a0_4 l0_5) else (q00.j0 k false a0_0 a0_1 l0_2 a0_3 a0_4 l0_5)) else (if a0_0 = 4 then (if (l0_5.length : Int) > 0 then (q00.j0 k (decide (a0_0 > 2)) a0_0 a0_1 l0_2 a0_3 a0_4 l0_5) else (q00.j0 k false a0_0 a0_1 l0_2 a0_3 a0_4 l0_5)) else (q00.j0 k true a0_0 a0_1 l0_2 a0_3 a0_4 l0_5)))) else (q00.j0 k true a0_0 a0_1 l0_2 a0_3 a0_4 l0_5)) else (if a0_3.toList = ([] : List UInt8) then (if (l0_5.length : Int) > 0 then (q00.j0 k (decide (a0_0 > 2)) a0_0 a0_1 l0_2 a0_3 a0_4 l0_5) else (q00.j0 k false a0_0 a0_1 l0_2 a0_3 a0_4 l0_5)) else (if a0_0 = 3 then (if (l0_5.length : Int) > 0 then (q00.j0 k (decide (a0_0 > 2)) a0_0 a0_1 l0_2 a0_3 a0_4 l0_5) else (q00.j0 k false a0_0 a0_1 l0_2 a0_3 a0_4 l0_5)) else (if a0_0 = 4 then (if (l0_5.length : Int) > 0 then (q00.j0 k (decide (a0_0 > 2)) a0_0 a0_1 l0_2 a0_3 a0_4 l0_5) else (q00.j0 k false a0_0 a0_1 l0_2 a0_3 a0_4 l0_5)) else (q00.j0 k true a0_0 a0_1 l0_2 a0_3 a0_4 l0_5))))) else (if a0_0 = 2 then (if (l0_2.length : Int) > 0 then (if a0_3.toList = ([] : List UInt8) then (if (l0_5.length : Int) > 0 then (q00.j0 k (decide (a0_0 > 2)) a0_0 a0_1 l0_2 a0_3 a0_4 l0_5) else (q00.j0 k false a0_0 a0_1 l0_2 a0_3 a0_4 l0_5)) else (if a0_0 = 3 then (if (l0_5.length : Int) > 0 then (q00.j0 k (decide (a0_0 > 2)) a0_0 a0_1 l0_2 a0_3 a0_4 l0_5) else (q00.j0 k false a0_0 a0_1 l0_2 a0_3 a0_4 l0_5)) else (if a0_0 = 4 then (if (l0_5.length : Int) > 0 then (q00.j0 k (decide (a0_0 > 2)) a0_0 a0_1 l0_2 a0_3 a0_4 l0_5) else (q00.j0 k false a0_0 a0_1 l0_2 a0_3 a0_4 l0_5)) else (q00.j0 k true a0_0 a0_1 l0_2 a0_3 a0_4 l0_5)))) else (if a0_3.toList = ([] : List UInt8) then (if (l0_5.length : Int) > 0 then (q00.j0 k (decide (a0_0 > 2)) a0_0 a0_1 l0_2 a0_3 a0_4 l0_5) else (q00.j0 k false a0_0 a0_1 l0_2 a0_3 a0_4 l0_5)) else (if a0_0 = 3 then (if (l0_5.length : Int) > 0 then (q00.j0 k (decide (a0_0 > 2)) a0_0 a0_1 l0_2 a0_3 a0_4 l0_5) else (q00.j0 k false a0_0 a0_1 l0_2 a0_3 a0_4 l0_5)) else (if a0_0 = 4 then (if (l0_5.length : Int) > 0 then (q00.j0 k (decide (a0_0 > 2)) a0_0 a0_1 l0_2 a0_3 a0_4 l0_5) else (q00.j0 k false a0_0 a0_1 l0_2 a0_3 a0_4 l0_5)) else (q00.j0 k true a0_0 a0_1 l0_2 a0_3 a0_4 l0_5))))) else (if a0_0 = 5 then (if (l0_2.length : Int) > 0 then (q00.j0 k true a0_0 a0_1 l0_2 a0_3 a0_4 l0_5) else (if a0_3.toList = ([] : List UInt8) then (if (l0_5.length : Int) > 0 then (q00.j0 k (decide (a0_0 > 2)) a0_0 a0_1 l0_2 a0_3 a0_4 l0_5) else (q00.j0 k false a0_0 a0_1 l0_2 a0_3 a0_4 l0_5)) else (if a0_0 = 3 then (if (l0_5.length : Int) > 0 then (q00.j0 k (decide (a0_0 > 2)) a0_0 a0_1 l0_2 a0_3 a0_4 l0_5) else (q00.j0 k false a0_0 a0_1 l0_2 a0_3 a0_4 l0_5)) else (if a0_0 = 4 then (if (l0_5.length : Int) > 0 then (q00.j0 k (decide (a0_0 > 2)) a0_0 a0_1 l0_2 a0_3 a0_4 l0_5) else (q00.j0 k false a0_0 a0_1 l0_2 a0_3 a0_4 l0_5)) else (q00.j0 k true a0_0 a0_1 l0_2 a0_3 a0_4 l0_5))))) else (q00.j0 k true a0_0 a0_1 l0_2 a0_3 a0_4 l0_5)))) = some r := by rw [if_pos rfl] at H; exact H
  clear H
  have H := H1
  clear H1
  have HC4 := aS H
  clear H
  go_enter Tryd.func72, Tryd.ntmps72
  go_upto_region 3 with (first | ((with_reducible refine q15 (N := 1) rfl ?_); (try (refine q1t (by rfl) ?_; dsimp only)); refine q0y ?hg (N := 1) ?hd (cs := #[.int .i64 a0_0, .string a0_1, .slice A0_2 l0_2.length c0_2, .string a0_3, .int .i64 a0_4, .slice A0_5 l0_5.length c0_5]) (t := 43) ?hr ?_; (case hd => rfl); (case hg => rfl); (case hr => first | (go_simp; done) | (go_simp; rfl)); intro gb198 hg w5 hbox hb; have n0_ := aS (q09 (by repeat (first | (with_reducible first | exact HB.out | apply bA | apply bN | apply bD) | exact HB.out)) hb); have n1_ := aS (hbox); have n2_ := aS ((by rw [hg]; exact (q0k (by repeat (first | (with_reducible first | exact HB.out | apply bA | apply bN | apply bD) | exact HB.out))) : w.heap.size ≤ gb198)); have n3_ := aS ((by rw [hg]; exact (q0k (by repeat (first | (with_reducible first | exact HB.out | apply bA | apply bN | apply bD) | exact HB.out))) : w.heap.size ≤ gb198)); clear HB; have HB := n0_; have BK198 := n1_; have GW198 := n2_; have GE198 := n3_; clear n0_ n1_ n2_ n3_; clear hb hbox hg; have hcz6_0 : w5.cell? ⟨gb198, 0, none⟩ = some (.int .i64 a0_0) := (q02 BK198.out 0).trans rfl; have hcz6_1 : w5.cell? ⟨gb198, 1, none⟩ = some (.string a0_1) := (q02 BK198.out 1).trans rfl; have hcz6_2 : w5.cell? ⟨gb198, 2, none⟩ = some (.slice A0_2 l0_2.length c0_2) := (q02 BK198.out 2).trans rfl; have hcz6_3 : w5.cell? ⟨gb198, 3, none⟩ = some (.string a0_3) := (q02 BK198.out 3).trans rfl; have hcz6_4 : w5.cell? ⟨gb198, 4, none⟩ = some (.int .i64 a0_4) := (q02 BK198.out 4).trans rfl; have hcz6_5 : w5.cell? ⟨gb198, 5, none⟩ = some (.slice A0_5 l0_5.length c0_5) := (q02 BK198.out 5).trans rfl; have hfz6_0 := q01 BK198.out 0; have hfz6_1 := q01 BK198.out 1; have hfz6_2 := q01 BK198.out 2; have hfz6_3 := q01 BK198.out 3; have hfz6_4 := q01 BK198.out 4; have hfz6_5 := q01 BK198.out 5) | (go_at_call 73; (with_reducible refine (q0p.calls a0_0 1 5 true _ A2.out).mono ?_); rintro e w' ⟨rfl, ⟨nd, rfl⟩⟩; (try first | exact ⟨rfl, _, World.drewN_drewN _ _ _⟩ | exact ⟨rfl, _, Eq.trans (World.drewN_drewN _ _ _) (congrArg (World.drewN _) (Nat.add_assoc _ _ _))⟩)))
  repeat (go_quiet (first | ((with_reducible refine q15 (N := 1) rfl ?_); (try (refine q1t (by rfl) ?_; dsimp only)); refine q0y ?hg (N := 1) ?hd (cs := #[.int .i64 a0_0, .string a0_1, .slice A0_2 l0_2.length c0_2, .string a0_3, .int .i64 a0_4, .slice A0_5 l0_5.length c0_5]) (t := 43) ?hr ?_; (case hd => rfl); (case hg => rfl); (case hr => first | (go_simp; done) | (go_simp; rfl)); intro gb198 hg w5 hbox hb; have n0_ := aS (q09 (by repeat (first | (with_reducible first | exact HB.out | apply bA | apply bN | apply bD) | exact HB.out)) hb); have n1_ := aS (hbox); have n2_ := aS ((by rw [hg]; exact (q0k (by repeat (first | (with_reducible first | exact HB.out | apply bA | apply bN | apply bD) | exact HB.out))) : w.heap.size ≤ gb198)); have n3_ := aS ((by rw [hg]; exact (q0k (by repeat (first | (with_reducible first | exact HB.out | apply bA | apply bN | apply bD) | exact HB.out))) : w.heap.size ≤ gb198)); clear HB; have HB := n0_; have BK198 := n1_; have GW198 := n2_; have GE198 := n3_; clear n0_ n1_ n2_ n3_; clear hb hbox hg; have hcz6_0 : w5.cell? ⟨gb198, 0, none⟩ = some (.int .i64 a0_0) := (q02 BK198.out 0).trans rfl; have hcz6_1 : w5.cell? ⟨gb198, 1, none⟩ = some (.string a0_1) := (q02 BK198.out 1).trans rfl; have hcz6_2 : w5.cell? ⟨gb198, 2, none⟩ = some (.slice A0_2 l0_2.length c0_2) := (q02 BK198.out 2).trans rfl; have hcz6_3 : w5.cell? ⟨gb198, 3, none⟩ = some (.string a0_3) := (q02 BK198.out 3).trans rfl; have hcz6_4 : w5.cell? ⟨gb198, 4, none⟩ = some (.int .i64 a0_4) := (q02 BK198.out 4).trans rfl; have hcz6_5 : w5.cell? ⟨gb198, 5, none⟩ = some (.slice A0_5 l0_5.length c0_5) := (q02 BK198.out 5).trans rfl; have hfz6_0 := q01 BK198.out 0; have hfz6_1 := q01 BK198.out 1; have hfz6_2 := q01 BK198.out 2; have hfz6_3 := q01 BK198.out 3; have hfz6_4 := q01 BK198.out 4; have hfz6_5 := q01 BK198.out 5) | (go_at_call 73; (with_reducible refine (q0p.calls a0_0 1 5 true _ A2.out).mono ?_); rintro e w' ⟨rfl, ⟨nd, rfl⟩⟩; (try first | exact ⟨rfl, _, World.drewN_drewN _ _ _⟩ | exact ⟨rfl, _, Eq.trans (World.drewN_drewN _ _ _) (congrArg (World.drewN _) (Nat.add_assoc _ _ _))⟩))); go_upto_region 3 with (first | ((with_reducible refine q15 (N := 1) rfl ?_); (try (refine q1t (by rfl) ?_; dsimp only)); refine q0y ?hg (N := 1) ?hd (cs := #[.int .i64 a0_0, .string a0_1, .slice A0_2 l0_2.length c0_2, .string a0_3, .int .i64 a0_4, .slice A0_5 l0_5.length c0_5]) (t := 43) ?hr ?_; (case hd => rfl); (case hg => rfl); (case hr => first | (go_simp; done) | (go_simp; rfl)); intro gb198 hg w5 hbox hb; have n0_ := aS (q09 (by repeat (first | (with_reducible first | exact HB.out | apply bA | apply bN | apply bD) | exact HB.out)) hb); have n1_ := aS (hbox); have n2_ := aS ((by rw [hg]; exact (q0k (by repeat (first | (with_reducible first | exact HB.out | apply bA | apply bN | apply bD) | exact HB.out))) : w.heap.size ≤ gb198)); have n3_ := aS ((by rw [hg]; exact (q0k (by repeat (first | (with_reducible first | exact HB.out | apply bA | apply bN | apply bD) | exact HB.out))) : w.heap.size ≤ gb198)); clear HB; have HB := n0_; have BK198 := n1_; have GW198 := n2_; have GE198 := n3_; clear n0_ n1_ n2_ n3_; clear hb hbox hg; have hcz6_0 : w5.cell? ⟨gb198, 0, none⟩ = some (.int .i64 a0_0) := (q02 BK198.out 0).trans rfl; have hcz6_1 : w5.cell? ⟨gb198, 1, none⟩ = some (.string a0_1) := (q02 BK198.out 1).trans rfl; have hcz6_2 : w5.cell? ⟨gb198, 2, none⟩ = some (.slice A0_2 l0_2.length c0_2) := (q02 BK198.out 2).trans rfl; have hcz6_3 : w5.cell? ⟨gb198, 3, none⟩ = some (.string a0_3) := (q02 BK198.out 3).trans rfl; have hcz6_4 : w5.cell? ⟨gb198, 4, none⟩ = some (.int .i64 a0_4) := (q02 BK198.out 4).trans rfl; have hcz6_5 : w5.cell? ⟨gb198, 5, none⟩ = some (.slice A0_5 l0_5.length c0_5) := (q02 BK198.out 5).trans rfl; have hfz6_0 := q01 BK198.out 0; have hfz6_1 := q01 BK198.out 1; have hfz6_2 := q01 BK198.out 2; have hfz6_3 := q01 BK198.out 3; have hfz6_4 := q01 BK198.out 4; have hfz6_5 := q01 BK198.out 5) | (go_at_call 73; (with_reducible refine (q0p.calls a0_0 1 5 true _ A2.out).mono ?_); rintro e w' ⟨rfl, ⟨nd, rfl⟩⟩; (try first | exact ⟨rfl, _, World.drewN_drewN _ _ _⟩ | exact ⟨rfl, _, Eq.trans (World.drewN_drewN _ _ _) (congrArg (World.drewN _) (Nat.add_assoc _ _ _))⟩))))
  (try simp only [Act.put, s1, s2, s3])
  go_cut [59] (fun v59 wc => ∃ (kq : Nat) (x59_3 : Bool), v59 = .bool x59_3 ∧ Aside0 (q00.j0 kq x59_3 a0_0 a0_1 l0_2 a0_3 a0_4 l0_5 = some r) ∧ Aside0 (kq ≤ k) ∧ Aside0 (wc.heap[gb198]? = some (.cells #[.int .i64 a0_0, .string a0_1, (.slice A0_2 l0_2.length c0_2), .string a0_3, .int .i64 a0_4, (.slice A0_5 l0_5.length c0_5)] 43 (0, 0))) ∧ Aside0 (Below w.heap.size w wc))
  case first =>
   have H := HC4.out
   clear HC4
   by_cases c7 : a0_1.toList = ([] : List UInt8)
   ·rw [if_pos c7] at H
    have c7b0 : (a0_1.toList == ([] : List UInt8)) = true := beq_iff_eq.mpr c7
    have c7b1 : (a0_1.toList != ([] : List UInt8)) = false := bne_eq_false_iff_eq.mpr c7
    clear c7
    (first | rw [c7b0] | (simp only [q1e, q1i]; rw [c7b0]) | skip)
    by_cases c8 : (l0_2.length : Int) > 0
    ·rw [if_pos c8] at H
     have c8b0 : decide (0 < (l0_2.length : Int)) = true := decide_eq_true c8
     have c8b1 : decide (0 < l0_2.length) = true := decide_eq_true (by omega)
     clear c8
     by_cases c9 : a0_0 = 2
     ·rw [if_pos c9] at H
      have c9b0 : (a0_0 == 2) = true := beq_iff_eq.mpr c9
      have c9b1 : (a0_0 != 2) = false := bne_eq_false_iff_eq.mpr c9
      clear c9
      by_cases c10 : a0_3.toList = ([] : List UInt8)
      ·rw [if_pos c10] at H
       have c10b0 : (a0_3.toList == ([] : List UInt8)) = true := beq_iff_eq.mpr c10
       have c10b1 : (a0_3.toList != ([] : List UInt8)) = false := bne_eq_false_iff_eq.mpr c10
       clear c10
       by_cases c11 : (l0_5.length : Int) > 0
       ·rw [if_pos c11] at H
        have c11b0 : decide (0 < (l0_5.length : Int)) = true := decide_eq_true c11
        have c11b1 : decide (0 < l0_5.length) = true := decide_eq_true (by omega)
        clear c11
        have H' := aS H
        clear H
        have hcz12_0 : w5.cell? ⟨gb198, 0, none⟩ = some (.int .i64 a0_0) := (q02 BK198.out 0).trans rfl
        have hcz12_1 : w5.cell? ⟨gb198, 1, none⟩ = some (.string a0_1) := (q02 BK198.out 1).trans rfl
        have hcz12_2 : w5.cell? ⟨gb198, 2, none⟩ = some (.slice A0_2 l0_2.length c0_2) := (q02 BK198.out 2).trans rfl
        have hcz12_3 : w5.cell? ⟨gb198, 3, none⟩ = some (.string a0_3) := (q02 BK198.out 3).trans rfl
        have hcz12_4 : w5.cell? ⟨gb198, 4, none⟩ = some (.int .i64 a0_4) := (q02 BK198.out 4).trans rfl
        have hcz12_5 : w5.cell? ⟨gb198, 5, none⟩ = some (.slice A0_5 l0_5.length c0_5) := (q02 BK198.out 5).trans rfl
        have hfz12_0 := q01 BK198.out 0
        have hfz12_1 := q01 BK198.out 1
        have hfz12_2 := q01 BK198.out 2
        have hfz12_3 := q01 BK198.out 3
        have hfz12_4 := q01 BK198.out 4
        have hfz12_5 := q01 BK198.out 5
        go_wp2
        repeat (go_quiet (fail); try go_wp2)
        go_meet
        case rel => exact ⟨_, (decide (a0_0 > 2)), (by first | rfl | (simp; done) | simp [*]), H', ⟨by first | omega | exact Nat.le_refl _⟩, ⟨by (with_reducible repeat (first | refine kN ?_ _ | refine kD ?_ | refine kA ?_ _)); exact BK198.out⟩, ⟨by repeat (first | (with_reducible first | exact HB.out | apply bA | apply bN | apply bD | refine bS ?_ GE198.out) | exact HB.out)⟩⟩
       ·rw [if_neg c11] at H
        have c11b0 : decide (0 < (l0_5.length : Int)) = false := decide_eq_false c11
        have c11b1 : decide (0 < l0_5.length) = false := decide_eq_false (by omega)
        clear c11
        have H' := aS H
        clear H
        have hcz13_0 : w5.cell? ⟨gb198, 0, none⟩ = some (.int .i64 a0_0) := (q02 BK198.out 0).trans rfl
        have hcz13_1 : w5.cell? ⟨gb198, 1, none⟩ = some (.string a0_1) := (q02 BK198.out 1).trans rfl
        have hcz13_2 : w5.cell? ⟨gb198, 2, none⟩ = some (.slice A0_2 l0_2.length c0_2) := (q02 BK198.out 2).trans rfl
        have hcz13_3 : w5.cell? ⟨gb198, 3, none⟩ = some (.string a0_3) := (q02 BK198.out 3).trans rfl
        have hcz13_4 : w5.cell? ⟨gb198, 4, none⟩ = some (.int .i64 a0_4) := (q02 BK198.out 4).trans rfl
        have hcz13_5 : w5.cell? ⟨gb198, 5, none⟩ = some (.slice A0_5 l0_5.length c0_5) := (q02 BK198.out 5).trans rfl
        have hfz13_0 := q01 BK198.out 0
        have hfz13_1 := q01 BK198.out 1
        have hfz13_2 := q01 BK198.out 2
        have hfz13_3 := q01 BK198.out 3
        have hfz13_4 := q01 BK198.out 4
        have hfz13_5 := q01 BK198.out 5
        go_wp2
        repeat (go_quiet (fail); try go_wp2)
        go_meet
        case rel => exact ⟨_, (false), (by first | rfl | (simp; done) | simp [*]), H', ⟨by first | omega | exact Nat.le_refl _⟩, ⟨by (with_reducible repeat (first | refine kN ?_ _ | refine kD ?_ | refine kA ?_ _)); exact BK198.out⟩, ⟨by repeat (first | (with_reducible first | exact HB.out | apply bA | apply bN | apply bD | refine bS ?_ GE198.out) | exact HB.out)⟩⟩
      ·rw [if_neg c10] at H
       have c10b0 : (a0_3.toList == ([] : List UInt8)) = false := beq_eq_false_iff_ne.mpr c10
       have c10b1 : (a0_3.toList != ([] : List UInt8)) = true := bne_iff_ne.mpr c10
       by_cases c14 : a0_0 = 3
       ·rw [if_pos c14] at H
        have c14b0 : (a0_0 == 3) = true := beq_iff_eq.mpr c14
        have c14b1 : (a0_0 != 3) = false := bne_eq_false_iff_eq.mpr c14
        clear c14
        by_cases c15 : (l0_5.length : Int) > 0
        ·rw [if_pos c15] at H
         have c15b0 : decide (0 < (l0_5.length : Int)) = true := decide_eq_true c15
         have c15b1 : decide (0 < l0_5.length) = true := decide_eq_true (by omega)
         clear c15
         have H' := aS H
         clear H
         have hcz16_0 : w5.cell? ⟨gb198, 0, none⟩ = some (.int .i64 a0_0) := (q02 BK198.out 0).trans rfl
         have hcz16_1 : w5.cell? ⟨gb198, 1, none⟩ = some (.string a0_1) := (q02 BK198.out 1).trans rfl
         have hcz16_2 : w5.cell? ⟨gb198, 2, none⟩ = some (.slice A0_2 l0_2.length c0_2) := (q02 BK198.out 2).trans rfl
         have hcz16_3 : w5.cell? ⟨gb198, 3, none⟩ = some (.string a0_3) := (q02 BK198.out 3).trans rfl
         have hcz16_4 : w5.cell? ⟨gb198, 4, none⟩ = some (.int .i64 a0_4) := (q02 BK198.out 4).trans rfl
         have hcz16_5 : w5.cell? ⟨gb198, 5, none⟩ = some (.slice A0_5 l0_5.length c0_5) := (q02 BK198.out 5).trans rfl
         have hfz16_0 := q01 BK198.out 0
         have hfz16_1 := q01 BK198.out 1
         have hfz16_2 := q01 BK198.out 2
         have hfz16_3 := q01 BK198.out 3
         have hfz16_4 := q01 BK198.out 4
         have hfz16_5 := q01 BK198.out 5
         go_wp2
         repeat (go_quiet (fail); try go_wp2)
         go_meet
         case rel => exact ⟨_, (decide (a0_0 > 2)), (by first | rfl | (simp; done) | simp [*]), H', ⟨by first | omega | exact Nat.le_refl _⟩, ⟨by (with_reducible repeat (first | refine kN ?_ _ | refine kD ?_ | refine kA ?_ _)); exact BK198.out⟩, ⟨by repeat (first | (with_reducible first | exact HB.out | apply bA | apply bN | apply bD | refine bS ?_ GE198.out) | exact HB.out)⟩⟩
        ·rw [if_neg c15] at H
         have c15b0 : decide (0 < (l0_5.length : Int)) = false := decide_eq_false c15
         have c15b1 : decide (0 < l0_5.length) = false := decide_eq_false (by omega)
         clear c15
         have H' := aS H
         clear H
         have hcz17_0 : w5.cell? ⟨gb198, 0, none⟩ = some (.int .i64 a0_0) := (q02 BK198.out 0).trans rfl
         have hcz17_1 : w5.cell? ⟨gb198, 1, none⟩ = some (.string a0_1) := (q02 BK198.out 1).trans rfl
         have hcz17_2 : w5.cell? ⟨gb198, 2, none⟩ = some (.slice A0_2 l0_2.length c0_2) := (q02 BK198.out 2).trans rfl
         have hcz17_3 : w5.cell? ⟨gb198, 3, none⟩ = some (.string a0_3) := (q02 BK198.out 3).trans rfl
         have hcz17_4 : w5.cell? ⟨gb198, 4, none⟩ = some (.int .i64 a0_4) := (q02 BK198.out 4).trans rfl
         have hcz17_5 : w5.cell? ⟨gb198, 5, none⟩ = some (.slice A0_5 l0_5.length c0_5) := (q02 BK198.out 5).trans rfl
         have hfz17_0 := q01 BK198.out 0
         have hfz17_1 := q01 BK198.out 1
         have hfz17_2 := q01 BK198.out 2
         have hfz17_3 := q01 BK198.out 3
         have hfz17_4 := q01 BK198.out 4
         have hfz17_5 := q01 BK198.out 5
         go_wp2
         repeat (go_quiet (fail); try go_wp2)
         go_meet
         case rel => exact ⟨_, (false), (by first | rfl | (simp; done) | simp [*]), H', ⟨by first | omega | exact Nat.le_refl _⟩, ⟨by (with_reducible repeat (first | refine kN ?_ _ | refine kD ?_ | refine kA ?_ _)); exact BK198.out⟩, ⟨by repeat (first | (with_reducible first | exact HB.out | apply bA | apply bN | apply bD | refine bS ?_ GE198.out) | exact HB.out)⟩⟩
       ·rw [if_neg c14] at H
        have c14b0 : (a0_0 == 3) = false := beq_eq_false_iff_ne.mpr c14
        have c14b1 : (a0_0 != 3) = true := bne_iff_ne.mpr c14
        by_cases c18 : a0_0 = 4
        ·rw [if_pos c18] at H
         have c18b0 : (a0_0 == 4) = true := beq_iff_eq.mpr c18
         have c18b1 : (a0_0 != 4) = false := bne_eq_false_iff_eq.mpr c18
         clear c18
         by_cases c19 : (l0_5.length : Int) > 0
         ·rw [if_pos c19] at H
          have c19b0 : decide (0 < (l0_5.length : Int)) = true := decide_eq_true c19
          have c19b1 : decide (0 < l0_5.length) = true := decide_eq_true (by omega)
          clear c19
          have H' := aS H
          clear H
          have hcz20_0 : w5.cell? ⟨gb198, 0, none⟩ = some (.int .i64 a0_0) := (q02 BK198.out 0).trans rfl
          have hcz20_1 : w5.cell? ⟨gb198, 1, none⟩ = some (.string a0_1) := (q02 BK198.out 1).trans rfl
          have hcz20_2 : w5.cell? ⟨gb198, 2, none⟩ = some (.slice A0_2 l0_2.length c0_2) := (q02 BK198.out 2).trans rfl
          have hcz20_3 : w5.cell? ⟨gb198, 3, none⟩ = some (.string a0_3) := (q02 BK198.out 3).trans rfl
          have hcz20_4 : w5.cell? ⟨gb198, 4, none⟩ = some (.int .i64 a0_4) := (q02 BK198.out 4).trans rfl
          have hcz20_5 : w5.cell? ⟨gb198, 5, none⟩ = some (.slice A0_5 l0_5.length c0_5) := (q02 BK198.out 5).trans rfl
          have hfz20_0 := q01 BK198.out 0
          have hfz20_1 := q01 BK198.out 1
          have hfz20_2 := q01 BK198.out 2
          have hfz20_3 := q01 BK198.out 3
          have hfz20_4 := q01 BK198.out 4
          have hfz20_5 := q01 BK198.out 5
          go_wp2
          repeat (go_quiet (fail); try go_wp2)
          go_meet
          case rel => exact ⟨_, (decide (a0_0 > 2)), (by first | rfl | (simp; done) | simp [*]), H', ⟨by first | omega | exact Nat.le_refl _⟩, ⟨by (with_reducible repeat (first | refine kN ?_ _ | refine kD ?_ | refine kA ?_ _)); exact BK198.out⟩, ⟨by repeat (first | (with_reducible first | exact HB.out | apply bA | apply bN | apply bD | refine bS ?_ GE198.out) | exact HB.out)⟩⟩
         ·rw [if_neg c19] at H
          have c19b0 : decide (0 < (l0_5.length : Int)) = false := decide_eq_false c19
          have c19b1 : decide (0 < l0_5.length) = false := decide_eq_false (by omega)
          clear c19
          have H' := aS H
          clear H
          have hcz21_0 : w5.cell? ⟨gb198, 0, none⟩ = some (.int .i64 a0_0) := (q02 BK198.out 0).trans rfl
          have hcz21_1 : w5.cell? ⟨gb198, 1, none⟩ = some (.string a0_1) := (q02 BK198.out 1).trans rfl
          have hcz21_2 : w5.cell? ⟨gb198, 2, none⟩ = some (.slice A0_2 l0_2.length c0_2) := (q02 BK198.out 2).trans rfl
          have hcz21_3 : w5.cell? ⟨gb198, 3, none⟩ = some (.string a0_3) := (q02 BK198.out 3).trans rfl
          have hcz21_4 : w5.cell? ⟨gb198, 4, none⟩ = some (.int .i64 a0_4) := (q02 BK198.out 4).trans rfl
          have hcz21_5 : w5.cell? ⟨gb198, 5, none⟩ = some (.slice A0_5 l0_5.length c0_5) := (q02 BK198.out 5).trans rfl
          have hfz21_0 := q01 BK198.out 0
          have hfz21_1 := q01 BK198.out 1
          have hfz21_2 := q01 BK198.out 2
          have hfz21_3 := q01 BK198.out 3
          have hfz21_4 := q01 BK198.out 4
          have hfz21_5 := q01 BK198.out 5
          go_wp2
          repeat (go_quiet (fail); try go_wp2)
          go_meet
          case rel => exact ⟨_, (false), (by first | rfl | (simp; done) | simp [*]), H', ⟨by first | omega | exact Nat.le_refl _⟩, ⟨by (with_reducible repeat (first | refine kN ?_ _ | refine kD ?_ | refine kA ?_ _)); exact BK198.out⟩, ⟨by repeat (first | (with_reducible first | exact HB.out | apply bA | apply bN | apply bD | refine bS ?_ GE198.out) | exact HB.out)⟩⟩
        ·rw [if_neg c18] at H
         have c18b0 : (a0_0 == 4) = false := beq_eq_false_iff_ne.mpr c18
         have c18b1 : (a0_0 != 4) = true := bne_iff_ne.mpr c18
         have H' := aS H
         clear H
         have hcz22_0 : w5.cell? ⟨gb198, 0, none⟩ = some (.int .i64 a0_0) := (q02 BK198.out 0).trans rfl
         have hcz22_1 : w5.cell? ⟨gb198, 1, none⟩ = some (.string a0_1) := (q02 BK198.out 1).trans rfl
         have hcz22_2 : w5.cell? ⟨gb198, 2, none⟩ = some (.slice A0_2 l0_2.length c0_2) := (q02 BK198.out 2).trans rfl
         have hcz22_3 : w5.cell? ⟨gb198, 3, none⟩ = some (.string a0_3) := (q02 BK198.out 3).trans rfl
         have hcz22_4 : w5.cell? ⟨gb198, 4, none⟩ = some (.int .i64 a0_4) := (q02 BK198.out 4).trans rfl
         have hcz22_5 : w5.cell? ⟨gb198, 5, none⟩ = some (.slice A0_5 l0_5.length c0_5) := (q02 BK198.out 5).trans rfl
         have hfz22_0 := q01 BK198.out 0
         have hfz22_1 := q01 BK198.out 1
         have hfz22_2 := q01 BK198.out 2
         have hfz22_3 := q01 BK198.out 3
         have hfz22_4 := q01 BK198.out 4
         have hfz22_5 := q01 BK198.out 5
         go_wp2
         repeat (go_quiet (fail); try go_wp2)
         go_meet
         case rel => exact ⟨_, (true), (by first | rfl | (simp; done) | simp [*]), H', ⟨by first | omega | exact Nat.le_refl _⟩, ⟨by (with_reducible repeat (first | refine kN ?_ _ | refine kD ?_ | refine kA ?_ _)); exact BK198.out⟩, ⟨by repeat (first | (with_reducible first | exact HB.out | apply bA | apply bN | apply bD | refine bS ?_ GE198.out) | exact HB.out)⟩⟩
     ·rw [if_neg c9] at H
      have c9b0 : (a0_0 == 2) = false := beq_eq_false_iff_ne.mpr c9
      have c9b1 : (a0_0 != 2) = true := bne_iff_ne.mpr c9
      have H' := aS H
      clear H
      have hcz23_0 : w5.cell? ⟨gb198, 0, none⟩ = some (.int .i64 a0_0) := (q02 BK198.out 0).trans rfl
      have hcz23_1 : w5.cell? ⟨gb198, 1, none⟩ = some (.string a0_1) := (q02 BK198.out 1).trans rfl
      have hcz23_2 : w5.cell? ⟨gb198, 2, none⟩ = some (.slice A0_2 l0_2.length c0_2) := (q02 BK198.out 2).trans rfl
      have hcz23_3 : w5.cell? ⟨gb198, 3, none⟩ = some (.string a0_3) := (q02 BK198.out 3).trans rfl
      have hcz23_4 : w5.cell? ⟨gb198, 4, none⟩ = some (.int .i64 a0_4) := (q02 BK198.out 4).trans rfl
      have hcz23_5 : w5.cell? ⟨gb198, 5, none⟩ = some (.slice A0_5 l0_5.length c0_5) := (q02 BK198.out 5).trans rfl
      have hfz23_0 := q01 BK198.out 0
      have hfz23_1 := q01 BK198.out 1
      have hfz23_2 := q01 BK198.out 2
      have hfz23_3 := q01 BK198.out 3
      have hfz23_4 := q01 BK198.out 4
      have hfz23_5 := q01 BK198.out 5
      go_wp2
      repeat (go_quiet (fail); try go_wp2)
      go_meet
      case rel => exact ⟨_, (true), (by first | rfl | (simp; done) | simp [*]), H', ⟨by first | omega | exact Nat.le_refl _⟩, ⟨by (with_reducible repeat (first | refine kN ?_ _ | refine kD ?_ | refine kA ?_ _)); exact BK198.out⟩, ⟨by repeat (first | (with_reducible first | exact HB.out | apply bA | apply bN | apply bD | refine bS ?_ GE198.out) | exact HB.out)⟩⟩
    ·rw [if_neg c8] at H
     have c8b0 : decide (0 < (l0_2.length : Int)) = false := decide_eq_false c8
     have c8b1 : decide (0 < l0_2.length) = false := decide_eq_false (by omega)
     clear c8
     by_cases c24 : a0_3.toList = ([] : List UInt8)
     ·rw [if_pos c24] at H
      have c24b0 : (a0_3.toList == ([] : List UInt8)) = true := beq_iff_eq.mpr c24
      have c24b1 : (a0_3.toList != ([] : List UInt8)) = false := bne_eq_false_iff_eq.mpr c24
      clear c24
      by_cases c25 : (l0_5.length : Int) > 0
      ·rw [if_pos c25] at H
       have c25b0 : decide (0 < (l0_5.length : Int)) = true := decide_eq_true c25
       have c25b1 : decide (0 < l0_5.length) = true := decide_eq_true (by omega)
       clear c25
       have H' := aS H
       clear H
       have hcz26_0 : w5.cell? ⟨gb198, 0, none⟩ = some (.int .i64 a0_0) := (q02 BK198.out 0).trans rfl
       have hcz26_1 : w5.cell? ⟨gb198, 1, none⟩ = some (.string a0_1) := (q02 BK198.out 1).trans rfl
       have hcz26_2 : w5.cell? ⟨gb198, 2, none⟩ = some (.slice A0_2 l0_2.length c0_2) := (q02 BK198.out 2).trans rfl
       have hcz26_3 : w5.cell? ⟨gb198, 3, none⟩ = some (.string a0_3) := (q02 BK198.out 3).trans rfl
       have hcz26_4 : w5.cell? ⟨gb198, 4, none⟩ = some (.int .i64 a0_4) := (q02 BK198.out 4).trans rfl
       have hcz26_5 : w5.cell? ⟨gb198, 5, none⟩ = some (.slice A0_5 l0_5.length c0_5) := (q02 BK198.out 5).trans rfl
       have hfz26_0 := q01 BK198.out 0
       have hfz26_1 := q01 BK198.out 1
       have hfz26_2 := q01 BK198.out 2
       have hfz26_3 := q01 BK198.out 3
       have hfz26_4 := q01 BK198.out 4
       have hfz26_5 := q01 BK198.out 5
       go_wp2
       repeat (go_quiet (fail); try go_wp2)
       go_meet
       case rel => exact ⟨_, (decide (a0_0 > 2)), (by first | rfl | (simp; done) | simp [*]), H', ⟨by first | omega | exact Nat.le_refl _⟩, ⟨by (with_reducible repeat (first | refine kN ?_ _ | refine kD ?_ | refine kA ?_ _)); exact BK198.out⟩, ⟨by repeat (first | (with_reducible first | exact HB.out | apply bA | apply bN | apply bD | refine bS ?_ GE198.out) | exact HB.out)⟩⟩
      ·rw [if_neg c25] at H
       have c25b0 : decide (0 < (l0_5.length : Int)) = false := decide_eq_false c25
       have c25b1 : decide (0 < l0_5.length) = false := decide_eq_false (by omega)
       clear c25
       have H' := aS H
       clear H
       have hcz27_0 : w5.cell? ⟨gb198, 0, none⟩ = some (.int .i64 a0_0) := (q02 BK198.out 0).trans rfl
       have hcz27_1 : w5.cell? ⟨gb198, 1, none⟩ = some (.string a0_1) := (q02 BK198.out 1).trans rfl
       have hcz27_2 : w5.cell? ⟨gb198, 2, none⟩ = some (.slice A0_2 l0_2.length c0_2) := (q02 BK198.out 2).trans rfl
       have hcz27_3 : w5.cell? ⟨gb198, 3, none⟩ = some (.string a0_3) := (q02 BK198.out 3).trans rfl
       have hcz27_4 : w5.cell? ⟨gb198, 4, none⟩ = some (.int .i64 a0_4) := (q02 BK198.out 4).trans rfl
       have hcz27_5 : w5.cell? ⟨gb198, 5, none⟩ = some (.slice A0_5 l0_5.length c0_5) := (q02 BK198.out 5).trans rfl
       have hfz27_0 := q01 BK198.out 0
       have hfz27_1 := q01 BK198.out 1
       have hfz27_2 := q01 BK198.out 2
       have hfz27_3 := q01 BK198.out 3
       have hfz27_4 := q01 BK198.out 4
       have hfz27_5 := q01 BK198.out 5
       go_wp2
       repeat (go_quiet (fail); try go_wp2)
       go_meet
       case rel => exact ⟨_, (false), (by first | rfl | (simp; done) | simp [*]), H', ⟨by first | omega | exact Nat.le_refl _⟩, ⟨by (with_reducible repeat (first | refine kN ?_ _ | refine kD ?_ | refine kA ?_ _)); exact BK198.out⟩, ⟨by repeat (first | (with_reducible first | exact HB.out | apply bA | apply bN | apply bD | refine bS ?_ GE198.out) | exact HB.out)⟩⟩
     ·rw [if_neg c24] at H
      have c24b0 : (a0_3.toList == ([] : List UInt8)) = false := beq_eq_false_iff_ne.mpr c24
      have c24b1 : (a0_3.toList != ([] : List UInt8)) = true := bne_iff_ne.mpr c24
      by_cases c28 : a0_0 = 3
      ·rw [if_pos c28] at H
       have c28b0 : (a0_0 == 3) = true := beq_iff_eq.mpr c28
       have c28b1 : (a0_0 != 3) = false := bne_eq_false_iff_eq.mpr c28
       clear c28
       by_cases c29 : (l0_5.length : Int) > 0
       ·rw [if_pos c29] at H
        have c29b0 : decide (0 < (l0_5.length : Int)) = true := decide_eq_true c29
        have c29b1 : decide (0 < l0_5.length) = true := decide_eq_true (by omega)
        clear c29
        have H' := aS H
        clear H
        have hcz30_0 : w5.cell? ⟨gb198, 0, none⟩ = some (.int .i64 a0_0) := (q02 BK198.out 0).trans rfl
        have hcz30_1 : w5.cell? ⟨gb198, 1, none⟩ = some (.string a0_1) := (q02 BK198.out 1).trans rfl
        have hcz30_2 : w5.cell? ⟨gb198, 2, none⟩ = some (.slice A0_2 l0_2.length c0_2) := (q02 BK198.out 2).trans rfl
        have hcz30_3 : w5.cell? ⟨gb198, 3, none⟩ = some (.string a0_3) := (q02 BK198.out 3).trans rfl
        have hcz30_4 : w5.cell? ⟨gb198, 4, none⟩ = some (.int .i64 a0_4) := (q02 BK198.out 4).trans rfl
        have hcz30_5 : w5.cell? ⟨gb198, 5, none⟩ = some (.slice A0_5 l0_5.length c0_5) := (q02 BK198.out 5).trans rfl
        have hfz30_0 := q01 BK198.out 0
        have hfz30_1 := q01 BK198.out 1
        have hfz30_2 := q01 BK198.out 2
        have hfz30_3 := q01 BK198.out 3
        have hfz30_4 := q01 BK198.out 4
        have hfz30_5 := q01 BK198.out 5
        go_wp2
        repeat (go_quiet (fail); try go_wp2)
        go_meet
        case rel => exact ⟨_, (decide (a0_0 > 2)), (by first | rfl | (simp; done) | simp [*]), H', ⟨by first | omega | exact Nat.le_refl _⟩, ⟨by (with_reducible repeat (first | refine kN ?_ _ | refine kD ?_ | refine kA ?_ _)); exact BK198.out⟩, ⟨by repeat (first | (with_reducible first | exact HB.out | apply bA | apply bN | apply bD | refine bS ?_ GE198.out) | exact HB.out)⟩⟩
       ·rw [if_neg c29] at H
        have c29b0 : decide (0 < (l0_5.length : Int)) = false := decide_eq_false c29
        have c29b1 : decide (0 < l0_5.length) = false := decide_eq_false (by omega)
        clear c29
        have H' := aS H
        clear H
        have hcz31_0 : w5.cell? ⟨gb198, 0, none⟩ = some (.int .i64 a0_0) := (q02 BK198.out 0).trans rfl
        have hcz31_1 : w5.cell? ⟨gb198, 1, none⟩ = some (.string a0_1) := (q02 BK198.out 1).trans rfl
        have hcz31_2 : w5.cell? ⟨gb198, 2, none⟩ = some (.slice A0_2 l0_2.length c0_2) := (q02 BK198.out 2).trans rfl
        have hcz31_3 : w5.cell? ⟨gb198, 3, none⟩ = some (.string a0_3) := (q02 BK198.out 3).trans rfl
        have hcz31_4 : w5.cell? ⟨gb198, 4, none⟩ = some (.int .i64 a0_4) := (q02 BK198.out 4).trans rfl
        have hcz31_5 : w5.cell? ⟨gb198, 5, none⟩ = some (.slice A0_5 l0_5.length c0_5) := (q02 BK198.out 5).trans rfl
        have hfz31_0 := q01 BK198.out 0
        have hfz31_1 := q01 BK198.out 1
        have hfz31_2 := q01 BK198.out 2
        have hfz31_3 := q01 BK198.out 3
        have hfz31_4 := q01 BK198.out 4
        have hfz31_5 := q01 BK198.out 5
        go_wp2
        repeat (go_quiet (fail); try go_wp2)
        go_meet
        case rel => exact ⟨_, (false), (by first | rfl | (simp; done) | simp [*]), H', ⟨by first | omega | exact Nat.le_refl _⟩, ⟨by (with_reducible repeat (first | refine kN ?_ _ | refine kD ?_ | refine kA ?_ _)); exact BK198.out⟩, ⟨by repeat (first | (with_reducible first | exact HB.out | apply bA | apply bN | apply bD | refine bS ?_ GE198.out) | exact HB.out)⟩⟩
      ·rw [if_neg c28] at H
       have c28b0 : (a0_0 == 3) = false := beq_eq_false_iff_ne.mpr c28
       have c28b1 : (a0_0 != 3) = true := bne_iff_ne.mpr c28
       by_cases c32 : a0_0 = 4
       ·rw [if_pos c32] at H
        have c32b0 : (a0_0 == 4) = true := beq_iff_eq.mpr c32
        have c32b1 : (a0_0 != 4) = false := bne_eq_false_iff_eq.mpr c32
        clear c32
        by_cases c33 : (l0_5.length : Int) > 0
        ·rw [if_pos c33] at H
         have c33b0 : decide (0 < (l0_5.length : Int)) = true := decide_eq_true c33
         have c33b1 : decide (0 < l0_5.length) = true := decide_eq_true (by omega)
         clear c33
         have H' := aS H
         clear H
         have hcz34_0 : w5.cell? ⟨gb198, 0, none⟩ = some (.int .i64 a0_0) := (q02 BK198.out 0).trans rfl
         have hcz34_1 : w5.cell? ⟨gb198, 1, none⟩ = some (.string a0_1) := (q02 BK198.out 1).trans rfl
         have hcz34_2 : w5.cell? ⟨gb198, 2, none⟩ = some (.slice A0_2 l0_2.length c0_2) := (q02 BK198.out 2).trans rfl
         have hcz34_3 : w5.cell? ⟨gb198, 3, none⟩ = some (.string a0_3) := (q02 BK198.out 3).trans rfl
         have hcz34_4 : w5.cell? ⟨gb198, 4, none⟩ = some (.int .i64 a0_4) := (q02 BK198.out 4).trans rfl
         have hcz34_5 : w5.cell? ⟨gb198, 5, none⟩ = some (.slice A0_5 l0_5.length c0_5) := (q02 BK198.out 5).trans rfl
         have hfz34_0 := q01 BK198.out 0
         have hfz34_1 := q01 BK198.out 1
         have hfz34_2 := q01 BK198.out 2
         have hfz34_3 := q01 BK198.out 3
         have hfz34_4 := q01 BK198.out 4
         have hfz34_5 := q01 BK198.out 5
         go_wp2
         repeat (go_quiet (fail); try go_wp2)
         go_meet
         case rel => exact ⟨_, (decide (a0_0 > 2)), (by first | rfl | (simp; done) | simp [*]), H', ⟨by first | omega | exact Nat.le_refl _⟩, ⟨by (with_reducible repeat (first | refine kN ?_ _ | refine kD ?_ | refine kA ?_ _)); exact BK198.out⟩, ⟨by repeat (first | (with_reducible first | exact HB.out | apply bA | apply bN | apply bD | refine bS ?_ GE198.out) | exact HB.out)⟩⟩
        ·rw [if_neg c33] at H
         have c33b0 : decide (0 < (l0_5.length : Int)) = false := decide_eq_false c33
         have c33b1 : decide (0 < l0_5.length) = false := decide_eq_false (by omega)
         clear c33
         have H' := aS H
         clear H
         have hcz35_0 : w5.cell? ⟨gb198, 0, none⟩ = some (.int .i64 a0_0) := (q02 BK198.out 0).trans rfl
         have hcz35_1 : w5.cell? ⟨gb198, 1, none⟩ = some (.string a0_1) := (q02 BK198.out 1).trans rfl
         have hcz35_2 : w5.cell? ⟨gb198, 2, none⟩ = some (.slice A0_2 l0_2.length c0_2) := (q02 BK198.out 2).trans rfl
         have hcz35_3 : w5.cell? ⟨gb198, 3, none⟩ = some (.string a0_3) := (q02 BK198.out 3).trans rfl
         have hcz35_4 : w5.cell? ⟨gb198, 4, none⟩ = some (.int .i64 a0_4) := (q02 BK198.out 4).trans rfl
         have hcz35_5 : w5.cell? ⟨gb198, 5, none⟩ = some (.slice A0_5 l0_5.length c0_5) := (q02 BK198.out 5).trans rfl
         have hfz35_0 := q01 BK198.out 0
         have hfz35_1 := q01 BK198.out 1
         have hfz35_2 := q01 BK198.out 2
         have hfz35_3 := q01 BK198.out 3
         have hfz35_4 := q01 BK198.out 4
         have hfz35_5 := q01 BK198.out 5
         go_wp2
         repeat (go_quiet (fail); try go_wp2)
         go_meet
         case rel => exact ⟨_, (false), (by first | rfl | (simp; done) | simp [*]), H', ⟨by first | omega | exact Nat.le_refl _⟩, ⟨by (with_reducible repeat (first | refine kN ?_ _ | refine kD ?_ | refine kA ?_ _)); exact BK198.out⟩, ⟨by repeat (first | (with_reducible first | exact HB.out | apply bA | apply bN | apply bD | refine bS ?_ GE198.out) | exact HB.out)⟩⟩
       ·rw [if_neg c32] at H
        have c32b0 : (a0_0 == 4) = false := beq_eq_false_iff_ne.mpr c32
        have c32b1 : (a0_0 != 4) = true := bne_iff_ne.mpr c32
        have H' := aS H
        clear H
        have hcz36_0 : w5.cell? ⟨gb198, 0, none⟩ = some (.int .i64 a0_0) := (q02 BK198.out 0).trans rfl
        have hcz36_1 : w5.cell? ⟨gb198, 1, none⟩ = some (.string a0_1) := (q02 BK198.out 1).trans rfl
        have hcz36_2 : w5.cell? ⟨gb198, 2, none⟩ = some (.slice A0_2 l0_2.length c0_2) := (q02 BK198.out 2).trans rfl
        have hcz36_3 : w5.cell? ⟨gb198, 3, none⟩ = some (.string a0_3) := (q02 BK198.out 3).trans rfl
        have hcz36_4 : w5.cell? ⟨gb198, 4, none⟩ = some (.int .i64 a0_4) := (q02 BK198.out 4).trans rfl
        have hcz36_5 : w5.cell? ⟨gb198, 5, none⟩ = some (.slice A0_5 l0_5.length c0_5) := (q02 BK198.out 5).trans rfl
        have hfz36_0 := q01 BK198.out 0
        have hfz36_1 := q01 BK198.out 1
        have hfz36_2 := q01 BK198.out 2
        have hfz36_3 := q01 BK198.out 3
        have hfz36_4 := q01 BK198.out 4
        have hfz36_5 := q01 BK198.out 5
        go_wp2
        repeat (go_quiet (fail); try go_wp2)
        go_meet
        case rel => exact ⟨_, (true), (by first | rfl | (simp; done) | simp [*]), H', ⟨by first | omega | exact Nat.le_refl _⟩, ⟨by (with_reducible repeat (first | refine kN ?_ _ | refine kD ?_ | refine kA ?_ _)); exact BK198.out⟩, ⟨by repeat (first | (with_reducible first | exact HB.out | apply bA | apply bN | apply bD | refine bS ?_ GE198.out) | exact HB.out)⟩⟩
   ·rw [if_neg c7] at H
    have c7b0 : (a0_1.toList == ([] : List UInt8)) = false := beq_eq_false_iff_ne.mpr c7
    have c7b1 : (a0_1.toList != ([] : List UInt8)) = true := bne_iff_ne.mpr c7
    (first | rw [c7b0] | (simp only [q1e, q1i]; rw [c7b0]) | skip)
    by_cases c37 : a0_0 = 2
    ·rw [if_pos c37] at H
     have c37b0 : (a0_0 == 2) = true := beq_iff_eq.mpr c37
     have c37b1 : (a0_0 != 2) = false := bne_eq_false_iff_eq.mpr c37
     clear c37
     by_cases c38 : (l0_2.length : Int) > 0
     ·rw [if_pos c38] at H
      have c38b0 : decide (0 < (l0_2.length : Int)) = true := decide_eq_true c38
      have c38b1 : decide (0 < l0_2.length) = true := decide_eq_true (by omega)
      clear c38
      by_cases c39 : a0_3.toList = ([] : List UInt8)
      ·rw [if_pos c39] at H
       have c39b0 : (a0_3.toList == ([] : List UInt8)) = true := beq_iff_eq.mpr c39
       have c39b1 : (a0_3.toList != ([] : List UInt8)) = false := bne_eq_false_iff_eq.mpr c39
       clear c39
       by_cases c40 : (l0_5.length : Int) > 0
       ·rw [if_pos c40] at H
        have c40b0 : decide (0 < (l0_5.length : Int)) = true := decide_eq_true c40
        have c40b1 : decide (0 < l0_5.length) = true := decide_eq_true (by omega)
        clear c40
        have H' := aS H
        clear H
        have hcz41_0 : w5.cell? ⟨gb198, 0, none⟩ = some (.int .i64 a0_0) := (q02 BK198.out 0).trans rfl
        have hcz41_1 : w5.cell? ⟨gb198, 1, none⟩ = some (.string a0_1) := (q02 BK198.out 1).trans rfl
        have hcz41_2 : w5.cell? ⟨gb198, 2, none⟩ = some (.slice A0_2 l0_2.length c0_2) := (q02 BK198.out 2).trans rfl
        have hcz41_3 : w5.cell? ⟨gb198, 3, none⟩ = some (.string a0_3) := (q02 BK198.out 3).trans rfl
        have hcz41_4 : w5.cell? ⟨gb198, 4, none⟩ = some (.int .i64 a0_4) := (q02 BK198.out 4).trans rfl
        have hcz41_5 : w5.cell? ⟨gb198, 5, none⟩ = some (.slice A0_5 l0_5.length c0_5) := (q02 BK198.out 5).trans rfl
        have hfz41_0 := q01 BK198.out 0
        have hfz41_1 := q01 BK198.out 1
        have hfz41_2 := q01 BK198.out 2
        have hfz41_3 := q01 BK198.out 3
        have hfz41_4 := q01 BK198.out 4
        have hfz41_5 := q01 BK198.out 5
        go_wp2
        repeat (go_quiet (fail); try go_wp2)
        go_meet
        case rel => exact ⟨_, (decide (a0_0 > 2)), (by first | rfl | (simp; done) | simp [*]), H', ⟨by first | omega | exact Nat.le_refl _⟩, ⟨by (with_reducible repeat (first | refine kN ?_ _ | refine kD ?_ | refine kA ?_ _)); exact BK198.out⟩, ⟨by repeat (first | (with_reducible first | exact HB.out | apply bA | apply bN | apply bD | refine bS ?_ GE198.out) | exact HB.out)⟩⟩
       ·rw [if_neg c40] at H
        have c40b0 : decide (0 < (l0_5.length : Int)) = false := decide_eq_false c40
        have c40b1 : decide (0 < l0_5.length) = false := decide_eq_false (by omega)
        clear c40
        have H' := aS H
        clear H
        have hcz42_0 : w5.cell? ⟨gb198, 0, none⟩ = some (.int .i64 a0_0) := (q02 BK198.out 0).trans rfl
        have hcz42_1 : w5.cell? ⟨gb198, 1, none⟩ = some (.string a0_1) := (q02 BK198.out 1).trans rfl
        have hcz42_2 : w5.cell? ⟨gb198, 2, none⟩ = some (.slice A0_2 l0_2.length c0_2) := (q02 BK198.out 2).trans rfl
        have hcz42_3 : w5.cell? ⟨gb198, 3, none⟩ = some (.string a0_3) := (q02 BK198.out 3).trans rfl
        have hcz42_4 : w5.cell? ⟨gb198, 4, none⟩ = some (.int .i64 a0_4) := (q02 BK198.out 4).trans rfl
        have hcz42_5 : w5.cell? ⟨gb198, 5, none⟩ = some (.slice A0_5 l0_5.length c0_5) := (q02 BK198.out 5).trans rfl
        have hfz42_0 := q01 BK198.out 0
        have hfz42_1 := q01 BK198.out 1
        have hfz42_2 := q01 BK198.out 2
        have hfz42_3 := q01 BK198.out 3
        have hfz42_4 := q01 BK198.out 4
        have hfz42_5 := q01 BK198.out 5
        go_wp2
        repeat (go_quiet (fail); try go_wp2)
        go_meet
        case rel => exact ⟨_, (false), (by first | rfl | (simp; done) | simp [*]), H', ⟨by first | omega | exact Nat.le_refl _⟩, ⟨by (with_reducible repeat (first | refine kN ?_ _ | refine kD ?_ | refine kA ?_ _)); exact BK198.out⟩, ⟨by repeat (first | (with_reducible first | exact HB.out | apply bA | apply bN | apply bD | refine bS ?_ GE198.out) | exact HB.out)⟩⟩
      ·rw [if_neg c39] at H
       have c39b0 : (a0_3.toList == ([] : List UInt8)) = false := beq_eq_false_iff_ne.mpr c39
       have c39b1 : (a0_3.toList != ([] : List UInt8)) = true := bne_iff_ne.mpr c39
       by_cases c43 : a0_0 = 3
       ·rw [if_pos c43] at H
        have c43b0 : (a0_0 == 3) = true := beq_iff_eq.mpr c43
        have c43b1 : (a0_0 != 3) = false := bne_eq_false_iff_eq.mpr c43
        clear c43
        by_cases c44 : (l0_5.length : Int) > 0
        ·rw [if_pos c44] at H
         have c44b0 : decide (0 < (l0_5.length : Int)) = true := decide_eq_true c44
         have c44b1 : decide (0 < l0_5.length) = true := decide_eq_true (by omega)
         clear c44
         have H' := aS H
         clear H
         have hcz45_0 : w5.cell? ⟨gb198, 0, none⟩ = some (.int .i64 a0_0) := (q02 BK198.out 0).trans rfl
         have hcz45_1 : w5.cell? ⟨gb198, 1, none⟩ = some (.string a0_1) := (q02 BK198.out 1).trans rfl
         have hcz45_2 : w5.cell? ⟨gb198, 2, none⟩ = some (.slice A0_2 l0_2.length c0_2) := (q02 BK198.out 2).trans rfl
         have hcz45_3 : w5.cell? ⟨gb198, 3, none⟩ = some (.string a0_3) := (q02 BK198.out 3).trans rfl
         have hcz45_4 : w5.cell? ⟨gb198, 4, none⟩ = some (.int .i64 a0_4) := (q02 BK198.out 4).trans rfl
         have hcz45_5 : w5.cell? ⟨gb198, 5, none⟩ = some (.slice A0_5 l0_5.length c0_5) := (q02 BK198.out 5).trans rfl
         have hfz45_0 := q01 BK198.out 0
         have hfz45_1 := q01 BK198.out 1
         have hfz45_2 := q01 BK198.out 2
         have hfz45_3 := q01 BK198.out 3
         have hfz45_4 := q01 BK198.out 4
         have hfz45_5 := q01 BK198.out 5
         go_wp2
         repeat (go_quiet (fail); try go_wp2)
         go_meet
         case rel => exact ⟨_, (decide (a0_0 > 2)), (by first | rfl | (simp; done) | simp [*]), H', ⟨by first | omega | exact Nat.le_refl _⟩, ⟨by (with_reducible repeat (first | refine kN ?_ _ | refine kD ?_ | refine kA ?_ _)); exact BK198.out⟩, ⟨by repeat (first | (with_reducible first | exact HB.out | apply bA | apply bN | apply bD | refine bS ?_ GE198.out) | exact HB.out)⟩⟩
        ·rw [if_neg c44] at H
         have c44b0 : decide (0 < (l0_5.length : Int)) = false := decide_eq_false c44
         have c44b1 : decide (0 < l0_5.length) = false := decide_eq_false (by omega)
         clear c44
         have H' := aS H
         clear H
         have hcz46_0 : w5.cell? ⟨gb198, 0, none⟩ = some (.int .i64 a0_0) := (q02 BK198.out 0).trans rfl
         have hcz46_1 : w5.cell? ⟨gb198, 1, none⟩ = some (.string a0_1) := (q02 BK198.out 1).trans rfl
         have hcz46_2 : w5.cell? ⟨gb198, 2, none⟩ = some (.slice A0_2 l0_2.length c0_2) := (q02 BK198.out 2).trans rfl
         have hcz46_3 : w5.cell? ⟨gb198, 3, none⟩ = some (.string a0_3) := (q02 BK198.out 3).trans rfl
         have hcz46_4 : w5.cell? ⟨gb198, 4, none⟩ = some (.int .i64 a0_4) := (q02 BK198.out 4).trans rfl
         have hcz46_5 : w5.cell? ⟨gb198, 5, none⟩ = some (.slice A0_5 l0_5.length c0_5) := (q02 BK198.out 5).trans rfl
         have hfz46_0 := q01 BK198.out 0
         have hfz46_1 := q01 BK198.out 1
         have hfz46_2 := q01 BK198.out 2
         have hfz46_3 := q01 BK198.out 3
         have hfz46_4 := q01 BK198.out 4
         have hfz46_5 := q01 BK198.out 5
         go_wp2
         repeat (go_quiet (fail); try go_wp2)
         go_meet
         case rel => exact ⟨_, (false), (by first | rfl | (simp; done) | simp [*]), H', ⟨by first | omega | exact Nat.le_refl _⟩, ⟨by (with_reducible repeat (first | refine kN ?_ _ | refine kD ?_ | refine kA ?_ _)); exact BK198.out⟩, ⟨by repeat (first | (with_reducible first | exact HB.out | apply bA | apply bN | apply bD | refine bS ?_ GE198.out) | exact HB.out)⟩⟩
       ·rw [if_neg c43] at H
        have c43b0 : (a0_0 == 3) = false := beq_eq_false_iff_ne.mpr c43
        have c43b1 : (a0_0 != 3) = true := bne_iff_ne.mpr c43
        by_cases c47 : a0_0 = 4
        ·rw [if_pos c47] at H
         have c47b0 : (a0_0 == 4) = true := beq_iff_eq.mpr c47
         have c47b1 : (a0_0 != 4) = false := bne_eq_false_iff_eq.mpr c47
         clear c47
         by_cases c48 : (l0_5.length : Int) > 0
         ·rw [if_pos c48] at H
          have c48b0 : decide (0 < (l0_5.length : Int)) = true := decide_eq_true c48
          have c48b1 : decide (0 < l0_5.length) = true := decide_eq_true (by omega)
          clear c48
          have H' := aS H
          clear H
          have hcz49_0 : w5.cell? ⟨gb198, 0, none⟩ = some (.int .i64 a0_0) := (q02 BK198.out 0).trans rfl
          have hcz49_1 : w5.cell? ⟨gb198, 1, none⟩ = some (.string a0_1) := (q02 BK198.out 1).trans rfl
          have hcz49_2 : w5.cell? ⟨gb198, 2, none⟩ = some (.slice A0_2 l0_2.length c0_2) := (q02 BK198.out 2).trans rfl
          have hcz49_3 : w5.cell? ⟨gb198, 3, none⟩ = some (.string a0_3) := (q02 BK198.out 3).trans rfl
          have hcz49_4 : w5.cell? ⟨gb198, 4, none⟩ = some (.int .i64 a0_4) := (q02 BK198.out 4).trans rfl
          have hcz49_5 : w5.cell? ⟨gb198, 5, none⟩ = some (.slice A0_5 l0_5.length c0_5) := (q02 BK198.out 5).trans rfl
          have hfz49_0 := q01 BK198.out 0
          have hfz49_1 := q01 BK198.out 1
          have hfz49_2 := q01 BK198.out 2
          have hfz49_3 := q01 BK198.out 3
          have hfz49_4 := q01 BK198.out 4
          have hfz49_5 := q01 BK198.out 5
          go_wp2
          repeat (go_quiet (fail); try go_wp2)
          go_meet
          case rel => exact ⟨_, (decide (a0_0 > 2)), (by first | rfl | (simp; done) | simp [*]), H', ⟨by first | omega | exact Nat.le_refl _⟩, ⟨by (with_reducible repeat (first | refine kN ?_ _ | refine kD ?_ | refine kA ?_ _)); exact BK198.out⟩, ⟨by repeat (first | (with_reducible first | exact HB.out | apply bA | apply bN | apply bD | refine bS ?_ GE198.out) | exact HB.out)⟩⟩
         ·rw [if_neg c48] at H
          have c48b0 : decide (0 < (l0_5.length : Int)) = false := decide_eq_false c48
          have c48b1 : decide (0 < l0_5.length) = false := decide_eq_false (by omega)
          clear c48
          have H' := aS H
          clear H
          have hcz50_0 : w5.cell? ⟨gb198, 0, none⟩ = some (.int .i64 a0_0) := (q02 BK198.out 0).trans rfl
          have hcz50_1 : w5.cell? ⟨gb198, 1, none⟩ = some (.string a0_1) := (q02 BK198.out 1).trans rfl
          have hcz50_2 : w5.cell? ⟨gb198, 2, none⟩ = some (.slice A0_2 l0_2.length c0_2) := (q02 BK198.out 2).trans rfl
          have hcz50_3 : w5.cell? ⟨gb198, 3, none⟩ = some (.string a0_3) := (q02 BK198.out 3).trans rfl
          have hcz50_4 : w5.cell? ⟨gb198, 4, none⟩ = some (.int .i64 a0_4) := (q02 BK198.out 4).trans rfl
          have hcz50_5 : w5.cell? ⟨gb198, 5, none⟩ = some (.slice A0_5 l0_5.length c0_5) := (q02 BK198.out 5).trans rfl
          have hfz50_0 := q01 BK198.out 0
          have hfz50_1 := q01 BK198.out 1
          have hfz50_2 := q01 BK198.out 2
          have hfz50_3 := q01 BK198.out 3
          have hfz50_4 := q01 BK198.out 4
          have hfz50_5 := q01 BK198.out 5
          go_wp2
          repeat (go_quiet (fail); try go_wp2)
          go_meet
          case rel => exact ⟨_, (false), (by first | rfl | (simp; done) | simp [*]), H', ⟨by first | omega | exact Nat.le_refl _⟩, ⟨by (with_reducible repeat (first | refine kN ?_ _ | refine kD ?_ | refine kA ?_ _)); exact BK198.out⟩, ⟨by repeat (first | (with_reducible first | exact HB.out | apply bA | apply bN | apply bD | refine bS ?_ GE198.out) | exact HB.out)⟩⟩
        ·rw [if_neg c47] at H
         have c47b0 : (a0_0 == 4) = false := beq_eq_false_iff_ne.mpr c47
         have c47b1 : (a0_0 != 4) = true := bne_iff_ne.mpr c47
         have H' := aS H
         clear H
         have hcz51_0 : w5.cell? ⟨gb198, 0, none⟩ = some (.int .i64 a0_0) := (q02 BK198.out 0).trans rfl
         have hcz51_1 : w5.cell? ⟨gb198, 1, none⟩ = some (.string a0_1) := (q02 BK198.out 1).trans rfl
         have hcz51_2 : w5.cell? ⟨gb198, 2, none⟩ = some (.slice A0_2 l0_2.length c0_2) := (q02 BK198.out 2).trans rfl
         have hcz51_3 : w5.cell? ⟨gb198, 3, none⟩ = some (.string a0_3) := (q02 BK198.out 3).trans rfl
         have hcz51_4 : w5.cell? ⟨gb198, 4, none⟩ = some (.int .i64 a0_4) := (q02 BK198.out 4).trans rfl
         have hcz51_5 : w5.cell? ⟨gb198, 5, none⟩ = some (.slice A0_5 l0_5.length c0_5) := (q02 BK198.out 5).trans rfl
         have hfz51_0 := q01 BK198.out 0
         have hfz51_1 := q01 BK198.out 1
         have hfz51_2 := q01 BK198.out 2
         have hfz51_3 := q01 BK198.out 3
         have hfz51_4 := q01 BK198.out 4
         have hfz51_5 := q01 BK198.out 5
         go_wp2
         repeat (go_quiet (fail); try go_wp2)
         go_meet
         case rel => exact ⟨_, (true), (by first | rfl | (simp; done) | simp [*]), H', ⟨by first | omega | exact Nat.le_refl _⟩, ⟨by (with_reducible repeat (first | refine kN ?_ _ | refine kD ?_ | refine kA ?_ _)); exact BK198.out⟩, ⟨by repeat (first | (with_reducible first | exact HB.out | apply bA | apply bN | apply bD | refine bS ?_ GE198.out) | exact HB.out)⟩⟩
     ·rw [if_neg c38] at H
      have c38b0 : decide (0 < (l0_2.length : Int)) = false := decide_eq_false c38
      have c38b1 : decide (0 < l0_2.length) = false := decide_eq_false (by omega)
      clear c38
      by_cases c52 : a0_3.toList = ([] : List UInt8)
      ·rw [if_pos c52] at H
       have c52b0 : (a0_3.toList == ([] : List UInt8)) = true := beq_iff_eq.mpr c52
       have c52b1 : (a0_3.toList != ([] : List UInt8)) = false := bne_eq_false_iff_eq.mpr c52
       clear c52
       by_cases c53 : (l0_5.length : Int) > 0
       ·rw [if_pos c53] at H
        have c53b0 : decide (0 < (l0_5.length : Int)) = true := decide_eq_true c53
        have c53b1 : decide (0 < l0_5.length) = true := decide_eq_true (by omega)
        clear c53
        have H' := aS H
        clear H
        have hcz54_0 : w5.cell? ⟨gb198, 0, none⟩ = some (.int .i64 a0_0) := (q02 BK198.out 0).trans rfl
        have hcz54_1 : w5.cell? ⟨gb198, 1, none⟩ = some (.string a0_1) := (q02 BK198.out 1).trans rfl
        have hcz54_2 : w5.cell? ⟨gb198, 2, none⟩ = some (.slice A0_2 l0_2.length c0_2) := (q02 BK198.out 2).trans rfl
        have hcz54_3 : w5.cell? ⟨gb198, 3, none⟩ = some (.string a0_3) := (q02 BK198.out 3).trans rfl
        have hcz54_4 : w5.cell? ⟨gb198, 4, none⟩ = some (.int .i64 a0_4) := (q02 BK198.out 4).trans rfl
        have hcz54_5 : w5.cell? ⟨gb198, 5, none⟩ = some (.slice A0_5 l0_5.length c0_5) := (q02 BK198.out 5).trans rfl
        have hfz54_0 := q01 BK198.out 0
        have hfz54_1 := q01 BK198.out 1
        have hfz54_2 := q01 BK198.out 2
        have hfz54_3 := q01 BK198.out 3
        have hfz54_4 := q01 BK198.out 4
        have hfz54_5 := q01 BK198.out 5
        go_wp2
        repeat (go_quiet (fail); try go_wp2)
        go_meet
        case rel => exact ⟨_, (decide (a0_0 > 2)), (by first | rfl | (simp; done) | simp [*]), H', ⟨by first | omega | exact Nat.le_refl _⟩, ⟨by (with_reducible repeat (first | refine kN ?_ _ | refine kD ?_ | refine kA ?_ _)); exact BK198.out⟩, ⟨by repeat (first | (with_reducible first | exact HB.out | apply bA | apply bN | apply bD | refine bS ?_ GE198.out) | exact HB.out)⟩⟩
       ·rw [if_neg c53] at H
        have c53b0 : decide (0 < (l0_5.length : Int)) = false := decide_eq_false c53
        have c53b1 : decide (0 < l0_5.length) = false := decide_eq_false (by omega)
        clear c53
        have H' := aS H
        clear H
        have hcz55_0 : w5.cell? ⟨gb198, 0, none⟩ = some (.int .i64 a0_0) := (q02 BK198.out 0).trans rfl
        have hcz55_1 : w5.cell? ⟨gb198, 1, none⟩ = some (.string a0_1) := (q02 BK198.out 1).trans rfl
        have hcz55_2 : w5.cell? ⟨gb198, 2, none⟩ = some (.slice A0_2 l0_2.length c0_2) := (q02 BK198.out 2).trans rfl
        have hcz55_3 : w5.cell? ⟨gb198, 3, none⟩ = some (.string a0_3) := (q02 BK198.out 3).trans rfl
        have hcz55_4 : w5.cell? ⟨gb198, 4, none⟩ = some (.int .i64 a0_4) := (q02 BK198.out 4).trans rfl
        have hcz55_5 : w5.cell? ⟨gb198, 5, none⟩ = some (.slice A0_5 l0_5.length c0_5) := (q02 BK198.out 5).trans rfl
        have hfz55_0 := q01 BK198.out 0
        have hfz55_1 := q01 BK198.out 1
        have hfz55_2 := q01 BK198.out 2
        have hfz55_3 := q01 BK198.out 3
        have hfz55_4 := q01 BK198.out 4
        have hfz55_5 := q01 BK198.out 5
        go_wp2
        repeat (go_quiet (fail); try go_wp2)
        go_meet
        case rel => exact ⟨_, (false), (by first | rfl | (simp; done) | simp [*]), H', ⟨by first | omega | exact Nat.le_refl _⟩, ⟨by (with_reducible repeat (first | refine kN ?_ _ | refine kD ?_ | refine kA ?_ _)); exact BK198.out⟩, ⟨by repeat (first | (with_reducible first | exact HB.out | apply bA | apply bN | apply bD | refine bS ?_ GE198.out) | exact HB.out)⟩⟩
      ·rw [if_neg c52] at H
       have c52b0 : (a0_3.toList == ([] : List UInt8)) = false := beq_eq_false_iff_ne.mpr c52
       have c52b1 : (a0_3.toList != ([] : List UInt8)) = true := bne_iff_ne.mpr c52
       by_cases c56 : a0_0 = 3
       ·rw [if_pos c56] at H
        have c56b0 : (a0_0 == 3) = true := beq_iff_eq.mpr c56
        have c56b1 : (a0_0 != 3) = false := bne_eq_false_iff_eq.mpr c56
        clear c56
        by_cases c57 : (l0_5.length : Int) > 0
        ·rw [if_pos c57] at H
         have c57b0 : decide (0 < (l0_5.length : Int)) = true := decide_eq_true c57
         have c57b1 : decide (0 < l0_5.length) = true := decide_eq_true (by omega)
         clear c57
         have H' := aS H
         clear H
         have hcz58_0 : w5.cell? ⟨gb198, 0, none⟩ = some (.int .i64 a0_0) := (q02 BK198.out 0).trans rfl
         have hcz58_1 : w5.cell? ⟨gb198, 1, none⟩ = some (.string a0_1) := (q02 BK198.out 1).trans rfl
         have hcz58_2 : w5.cell? ⟨gb198, 2, none⟩ = some (.slice A0_2 l0_2.length c0_2) := (q02 BK198.out 2).trans rfl
         have hcz58_3 : w5.cell? ⟨gb198, 3, none⟩ = some (.string a0_3) := (q02 BK198.out 3).trans rfl
         have hcz58_4 : w5.cell? ⟨gb198, 4, none⟩ = some (.int .i64 a0_4) := (q02 BK198.out 4).trans rfl
         have hcz58_5 : w5.cell? ⟨gb198, 5, none⟩ = some (.slice A0_5 l0_5.length c0_5) := (q02 BK198.out 5).trans rfl
         have hfz58_0 := q01 BK198.out 0
         have hfz58_1 := q01 BK198.out 1
         have hfz58_2 := q01 BK198.out 2
         have hfz58_3 := q01 BK198.out 3
         have hfz58_4 := q01 BK198.out 4
         have hfz58_5 := q01 BK198.out 5
         go_wp2
         repeat (go_quiet (fail); try go_wp2)
         go_meet
         case rel => exact ⟨_, (decide (a0_0 > 2)), (by first | rfl | (simp; done) | simp [*]), H', ⟨by first | omega | exact Nat.le_refl _⟩, ⟨by (with_reducible repeat (first | refine kN ?_ _ | refine kD ?_ | refine kA ?_ _)); exact BK198.out⟩, ⟨by repeat (first | (with_reducible first | exact HB.out | apply bA | apply bN | apply bD | refine bS ?_ GE198.out) | exact HB.out)⟩⟩
        ·rw [if_neg c57] at H
         have c57b0 : decide (0 < (l0_5.length : Int)) = false := decide_eq_false c57
         have c57b1 : decide (0 < l0_5.length) = false := decide_eq_false (by omega)
         clear c57
         have H' := aS H
         clear H
         have hcz59_0 : w5.cell? ⟨gb198, 0, none⟩ = some (.int .i64 a0_0) := (q02 BK198.out 0).trans rfl
         have hcz59_1 : w5.cell? ⟨gb198, 1, none⟩ = some (.string a0_1) := (q02 BK198.out 1).trans rfl
         have hcz59_2 : w5.cell? ⟨gb198, 2, none⟩ = some (.slice A0_2 l0_2.length c0_2) := (q02 BK198.out 2).trans rfl
         have hcz59_3 : w5.cell? ⟨gb198, 3, none⟩ = some (.string a0_3) := (q02 BK198.out 3).trans rfl
         have hcz59_4 : w5.cell? ⟨gb198, 4, none⟩ = some (.int .i64 a0_4) := (q02 BK198.out 4).trans rfl
         have hcz59_5 : w5.cell? ⟨gb198, 5, none⟩ = some (.slice A0_5 l0_5.length c0_5) := (q02 BK198.out 5).trans rfl
         have hfz59_0 := q01 BK198.out 0
         have hfz59_1 := q01 BK198.out 1
         have hfz59_2 := q01 BK198.out 2
         have hfz59_3 := q01 BK198.out 3
         have hfz59_4 := q01 BK198.out 4
         have hfz59_5 := q01 BK198.out 5
         go_wp2
         repeat (go_quiet (fail); try go_wp2)
         go_meet
         case rel => exact ⟨_, (false), (by first | rfl | (simp; done) | simp [*]), H', ⟨by first | omega | exact Nat.le_refl _⟩, ⟨by (with_reducible repeat (first | refine kN ?_ _ | refine kD ?_ | refine kA ?_ _)); exact BK198.out⟩, ⟨by repeat (first | (with_reducible first | exact HB.out | apply bA | apply bN | apply bD | refine bS ?_ GE198.out) | exact HB.out)⟩⟩
       ·rw [if_neg c56] at H
        have c56b0 : (a0_0 == 3) = false := beq_eq_false_iff_ne.mpr c56
        have c56b1 : (a0_0 != 3) = true := bne_iff_ne.mpr c56
        by_cases c60 : a0_0 = 4
        ·rw [if_pos c60] at H
         have c60b0 : (a0_0 == 4) = true := beq_iff_eq.mpr c60
         have c60b1 : (a0_0 != 4) = false := bne_eq_false_iff_eq.mpr c60
         clear c60
         by_cases c61 : (l0_5.length : Int) > 0
         ·rw [if_pos c61] at H
          have c61b0 : decide (0 < (l0_5.length : Int)) = true := decide_eq_true c61
          have c61b1 : decide (0 < l0_5.length) = true := decide_eq_true (by omega)
          clear c61
          have H' := aS H
          clear H
          have hcz62_0 : w5.cell? ⟨gb198, 0, none⟩ = some (.int .i64 a0_0) := (q02 BK198.out 0).trans rfl
          have hcz62_1 : w5.cell? ⟨gb198, 1, none⟩ = some (.string a0_1) := (q02 BK198.out 1).trans rfl
          have hcz62_2 : w5.cell? ⟨gb198, 2, none⟩ = some (.slice A0_2 l0_2.length c0_2) := (q02 BK198.out 2).trans rfl
          have hcz62_3 : w5.cell? ⟨gb198, 3, none⟩ = some (.string a0_3) := (q02 BK198.out 3).trans rfl
          have hcz62_4 : w5.cell? ⟨gb198, 4, none⟩ = some (.int .i64 a0_4) := (q02 BK198.out 4).trans rfl
          have hcz62_5 : w5.cell? ⟨gb198, 5, none⟩ = some (.slice A0_5 l0_5.length c0_5) := (q02 BK198.out 5).trans rfl
          have hfz62_0 := q01 BK198.out 0
          have hfz62_1 := q01 BK198.out 1
          have hfz62_2 := q01 BK198.out 2
          have hfz62_3 := q01 BK198.out 3
          have hfz62_4 := q01 BK198.out 4
          have hfz62_5 := q01 BK198.out 5
          go_wp2
          repeat (go_quiet (fail); try go_wp2)
          go_meet
          case rel => exact ⟨_, (decide (a0_0 > 2)), (by first | rfl | (simp; done) | simp [*]), H', ⟨by first | omega | exact Nat.le_refl _⟩, ⟨by (with_reducible repeat (first | refine kN ?_ _ | refine kD ?_ | refine kA ?_ _)); exact BK198.out⟩, ⟨by repeat (first | (with_reducible first | exact HB.out | apply bA | apply bN | apply bD | refine bS ?_ GE198.out) | exact HB.out)⟩⟩
         ·rw [if_neg c61] at H
          have c61b0 : decide (0 < (l0_5.length : Int)) = false := decide_eq_false c61
          have c61b1 : decide (0 < l0_5.length) = false := decide_eq_false (by omega)
          clear c61
          have H' := aS H
          clear H
          have hcz63_0 : w5.cell? ⟨gb198, 0, none⟩ = some (.int .i64 a0_0) := (q02 BK198.out 0).trans rfl
          have hcz63_1 : w5.cell? ⟨gb198, 1, none⟩ = some (.string a0_1) := (q02 BK198.out 1).trans rfl
          have hcz63_2 : w5.cell? ⟨gb198, 2, none⟩ = some (.slice A0_2 l0_2.length c0_2) := (q02 BK198.out 2).trans rfl
          have hcz63_3 : w5.cell? ⟨gb198, 3, none⟩ = some (.string a0_3) := (q02 BK198.out 3).trans rfl
          have hcz63_4 : w5.cell? ⟨gb198, 4, none⟩ = some (.int .i64 a0_4) := (q02 BK198.out 4).trans rfl
          have hcz63_5 : w5.cell? ⟨gb198, 5, none⟩ = some (.slice A0_5 l0_5.length c0_5) := (q02 BK198.out 5).trans rfl
          have hfz63_0 := q01 BK198.out 0
          have hfz63_1 := q01 BK198.out 1
          have hfz63_2 := q01 BK198.out 2
          have hfz63_3 := q01 BK198.out 3
          have hfz63_4 := q01 BK198.out 4
          have hfz63_5 := q01 BK198.out 5
          go_wp2
          repeat (go_quiet (fail); try go_wp2)
          go_meet
          case rel => exact ⟨_, (false), (by first | rfl | (simp; done) | simp [*]), H', ⟨by first | omega | exact Nat.le_refl _⟩, ⟨by (with_reducible repeat (first | refine kN ?_ _ | refine kD ?_ | refine kA ?_ _)); exact BK198.out⟩, ⟨by repeat (first | (with_reducible first | exact HB.out | apply bA | apply bN | apply bD | refine bS ?_ GE198.out) | exact HB.out)⟩⟩
        ·rw [if_neg c60] at H
         have c60b0 : (a0_0 == 4) = false := beq_eq_false_iff_ne.mpr c60
         have c60b1 : (a0_0 != 4) = true := bne_iff_ne.mpr c60
         have H' := aS H
         clear H
         have hcz64_0 : w5.cell? ⟨gb198, 0, none⟩ = some (.int .i64 a0_0) := (q02 BK198.out 0).trans rfl
         have hcz64_1 : w5.cell? ⟨gb198, 1, none⟩ = some (.string a0_1) := (q02 BK198.out 1).trans rfl
         have hcz64_2 : w5.cell? ⟨gb198, 2, none⟩ = some (.slice A0_2 l0_2.length c0_2) := (q02 BK198.out 2).trans rfl
         have hcz64_3 : w5.cell? ⟨gb198, 3, none⟩ = some (.string a0_3) := (q02 BK198.out 3).trans rfl
         have hcz64_4 : w5.cell? ⟨gb198, 4, none⟩ = some (.int .i64 a0_4) := (q02 BK198.out 4).trans rfl
         have hcz64_5 : w5.cell? ⟨gb198, 5, none⟩ = some (.slice A0_5 l0_5.length c0_5) := (q02 BK198.out 5).trans rfl
         have hfz64_0 := q01 BK198.out 0
         have hfz64_1 := q01 BK198.out 1
         have hfz64_2 := q01 BK198.out 2
         have hfz64_3 := q01 BK198.out 3
         have hfz64_4 := q01 BK198.out 4
         have hfz64_5 := q01 BK198.out 5
         go_wp2
         repeat (go_quiet (fail); try go_wp2)
         go_meet
         case rel => exact ⟨_, (true), (by first | rfl | (simp; done) | simp [*]), H', ⟨by first | omega | exact Nat.le_refl _⟩, ⟨by (with_reducible repeat (first | refine kN ?_ _ | refine kD ?_ | refine kA ?_ _)); exact BK198.out⟩, ⟨by repeat (first | (with_reducible first | exact HB.out | apply bA | apply bN | apply bD | refine bS ?_ GE198.out) | exact HB.out)⟩⟩
    ·rw [if_neg c37] at H
     have c37b0 : (a0_0 == 2) = false := beq_eq_false_iff_ne.mpr c37
     have c37b1 : (a0_0 != 2) = true := bne_iff_ne.mpr c37
     by_cases c65 : a0_0 = 5
     ·rw [if_pos c65] at H
      have c65b0 : (a0_0 == 5) = true := beq_iff_eq.mpr c65
      have c65b1 : (a0_0 != 5) = false := bne_eq_false_iff_eq.mpr c65
      clear c65
      by_cases c66 : (l0_2.length : Int) > 0
      ·rw [if_pos c66] at H
       have c66b0 : decide (0 < (l0_2.length : Int)) = true := decide_eq_true c66
       have c66b1 : decide (0 < l0_2.length) = true := decide_eq_true (by omega)
       clear c66
       have H' := aS H
       clear H
       have hcz67_0 : w5.cell? ⟨gb198, 0, none⟩ = some (.int .i64 a0_0) := (q02 BK198.out 0).trans rfl
       have hcz67_1 : w5.cell? ⟨gb198, 1, none⟩ = some (.string a0_1) := (q02 BK198.out 1).trans rfl
       have hcz67_2 : w5.cell? ⟨gb198, 2, none⟩ = some (.slice A0_2 l0_2.length c0_2) := (q02 BK198.out 2).trans rfl
       have hcz67_3 : w5.cell? ⟨gb198, 3, none⟩ = some (.string a0_3) := (q02 BK198.out 3).trans rfl
       have hcz67_4 : w5.cell? ⟨gb198, 4, none⟩ = some (.int .i64 a0_4) := (q02 BK198.out 4).trans rfl
       have hcz67_5 : w5.cell? ⟨gb198, 5, none⟩ = some (.slice A0_5 l0_5.length c0_5) := (q02 BK198.out 5).trans rfl
       have hfz67_0 := q01 BK198.out 0
       have hfz67_1 := q01 BK198.out 1
       have hfz67_2 := q01 BK198.out 2
       have hfz67_3 := q01 BK198.out 3
       have hfz67_4 := q01 BK198.out 4
       have hfz67_5 := q01 BK198.out 5
       go_wp2
       repeat (go_quiet (fail); try go_wp2)
       go_meet
       case rel => exact ⟨_, (true), (by first | rfl | (simp; done) | simp [*]), H', ⟨by first | omega | exact Nat.le_refl _⟩, ⟨by (with_reducible repeat (first | refine kN ?_ _ | refine kD ?_ | refine kA ?_ _)); exact BK198.out⟩, ⟨by repeat (first | (with_reducible first | exact HB.out | apply bA | apply bN | apply bD | refine bS ?_ GE198.out) | exact HB.out)⟩⟩
      ·rw [if_neg c66] at H
       have c66b0 : decide (0 < (l0_2.length : Int)) = false := decide_eq_false c66
       have c66b1 : decide (0 < l0_2.length) = false := decide_eq_false (by omega)
       clear c66
       by_cases c68 : a0_3.toList = ([] : List UInt8)
       ·rw [if_pos c68] at H
        have c68b0 : (a0_3.toList == ([] : List UInt8)) = true := beq_iff_eq.mpr c68
        have c68b1 : (a0_3.toList != ([] : List UInt8)) = false := bne_eq_false_iff_eq.mpr c68
        clear c68
        by_cases c69 : (l0_5.length : Int) > 0
        ·rw [if_pos c69] at H
         have c69b0 : decide (0 < (l0_5.length : Int)) = true := decide_eq_true c69
         have c69b1 : decide (0 < l0_5.length) = true := decide_eq_true (by omega)
         clear c69
         have H' := aS H
         clear H
         have hcz70_0 : w5.cell? ⟨gb198, 0, none⟩ = some (.int .i64 a0_0) := (q02 BK198.out 0).trans rfl
         have hcz70_1 : w5.cell? ⟨gb198, 1, none⟩ = some (.string a0_1) := (q02 BK198.out 1).trans rfl
         have hcz70_2 : w5.cell? ⟨gb198, 2, none⟩ = some (.slice A0_2 l0_2.length c0_2) := (q02 BK198.out 2).trans rfl
         have hcz70_3 : w5.cell? ⟨gb198, 3, none⟩ = some (.string a0_3) := (q02 BK198.out 3).trans rfl
         have hcz70_4 : w5.cell? ⟨gb198, 4, none⟩ = some (.int .i64 a0_4) := (q02 BK198.out 4).trans rfl
         have hcz70_5 : w5.cell? ⟨gb198, 5, none⟩ = some (.slice A0_5 l0_5.length c0_5) := (q02 BK198.out 5).trans rfl
         have hfz70_0 := q01 BK198.out 0
         have hfz70_1 := q01 BK198.out 1
         have hfz70_2 := q01 BK198.out 2
         have hfz70_3 := q01 BK198.out 3
         have hfz70_4 := q01 BK198.out 4
         have hfz70_5 := q01 BK198.out 5
         go_wp2
         repeat (go_quiet (fail); try go_wp2)
         go_meet
         case rel => exact ⟨_, (decide (a0_0 > 2)), (by first | rfl | (simp; done) | simp [*]), H', ⟨by first | omega | exact Nat.le_refl _⟩, ⟨by (with_reducible repeat (first | refine kN ?_ _ | refine kD ?_ | refine kA ?_ _)); exact BK198.out⟩, ⟨by repeat (first | (with_reducible first | exact HB.out | apply bA | apply bN | apply bD | refine bS ?_ GE198.out) | exact HB.out)⟩⟩
        ·rw [if_neg c69] at H
         have c69b0 : decide (0 < (l0_5.length : Int)) = false := decide_eq_false c69
         have c69b1 : decide (0 < l0_5.length) = false := decide_eq_false (by omega)
         clear c69
         have H' := aS H
         clear H
         have hcz71_0 : w5.cell? ⟨gb198, 0, none⟩ = some (.int .i64 a0_0) := (q02 BK198.out 0).trans rfl
         have hcz71_1 : w5.cell? ⟨gb198, 1, none⟩ = some (.string a0_1) := (q02 BK198.out 1).trans rfl
         have hcz71_2 : w5.cell? ⟨gb198, 2, none⟩ = some (.slice A0_2 l0_2.length c0_2) := (q02 BK198.out 2).trans rfl
         have hcz71_3 : w5.cell? ⟨gb198, 3, none⟩ = some (.string a0_3) := (q02 BK198.out 3).trans rfl
         have hcz71_4 : w5.cell? ⟨gb198, 4, none⟩ = some (.int .i64 a0_4) := (q02 BK198.out 4).trans rfl
         have hcz71_5 : w5.cell? ⟨gb198, 5, none⟩ = some (.slice A0_5 l0_5.length c0_5) := (q02 BK198.out 5).trans rfl
         have hfz71_0 := q01 BK198.out 0
         have hfz71_1 := q01 BK198.out 1
         have hfz71_2 := q01 BK198.out 2
         have hfz71_3 := q01 BK198.out 3
         have hfz71_4 := q01 BK198.out 4
         have hfz71_5 := q01 BK198.out 5
         go_wp2
         repeat (go_quiet (fail); try go_wp2)
         go_meet
         case rel => exact ⟨_, (false), (by first | rfl | (simp; done) | simp [*]), H', ⟨by first | omega | exact Nat.le_refl _⟩, ⟨by (with_reducible repeat (first | refine kN ?_ _ | refine kD ?_ | refine kA ?_ _)); exact BK198.out⟩, ⟨by repeat (first | (with_reducible first | exact HB.out | apply bA | apply bN | apply bD | refine bS ?_ GE198.out) | exact HB.out)⟩⟩
       ·rw [if_neg c68] at H
        have c68b0 : (a0_3.toList == ([] : List UInt8)) = false := beq_eq_false_iff_ne.mpr c68
        have c68b1 : (a0_3.toList != ([] : List UInt8)) = true := bne_iff_ne.mpr c68
        by_cases c72 : a0_0 = 3
        ·rw [if_pos c72] at H
         have c72b0 : (a0_0 == 3) = true := beq_iff_eq.mpr c72
         have c72b1 : (a0_0 != 3) = false := bne_eq_false_iff_eq.mpr c72
         clear c72
         by_cases c73 : (l0_5.length : Int) > 0
         ·rw [if_pos c73] at H
          have c73b0 : decide (0 < (l0_5.length : Int)) = true := decide_eq_true c73
          have c73b1 : decide (0 < l0_5.length) = true := decide_eq_true (by omega)
          clear c73
          have H' := aS H
          clear H
          have hcz74_0 : w5.cell? ⟨gb198, 0, none⟩ = some (.int .i64 a0_0) := (q02 BK198.out 0).trans rfl
          have hcz74_1 : w5.cell? ⟨gb198, 1, none⟩ = some (.string a0_1) := (q02 BK198.out 1).trans rfl
          have hcz74_2 : w5.cell? ⟨gb198, 2, none⟩ = some (.slice A0_2 l0_2.length c0_2) := (q02 BK198.out 2).trans rfl
          have hcz74_3 : w5.cell? ⟨gb198, 3, none⟩ = some (.string a0_3) := (q02 BK198.out 3).trans rfl
          have hcz74_4 : w5.cell? ⟨gb198, 4, none⟩ = some (.int .i64 a0_4) := (q02 BK198.out 4).trans rfl
          have hcz74_5 : w5.cell? ⟨gb198, 5, none⟩ = some (.slice A0_5 l0_5.length c0_5) := (q02 BK198.out 5).trans rfl
          have hfz74_0 := q01 BK198.out 0
          have hfz74_1 := q01 BK198.out 1
          have hfz74_2 := q01 BK198.out 2
          have hfz74_3 := q01 BK198.out 3
          have hfz74_4 := q01 BK198.out 4
          have hfz74_5 := q01 BK198.out 5
          go_wp2
          repeat (go_quiet (fail); try go_wp2)
          go_meet
          case rel => exact ⟨_, (decide (a0_0 > 2)), (by first | rfl | (simp; done) | simp [*]), H', ⟨by first | omega | exact Nat.le_refl _⟩, ⟨by (with_reducible repeat (first | refine kN ?_ _ | refine kD ?_ | refine kA ?_ _)); exact BK198.out⟩, ⟨by repeat (first | (with_reducible first | exact HB.out | apply bA | apply bN | apply bD | refine bS ?_ GE198.out) | exact HB.out)⟩⟩
         ·rw [if_neg c73] at H
          have c73b0 : decide (0 < (l0_5.length : Int)) = false := decide_eq_false c73
          have c73b1 : decide (0 < l0_5.length) = false := decide_eq_false (by omega)
          clear c73
          have H' := aS H
          clear H
          have hcz75_0 : w5.cell? ⟨gb198, 0, none⟩ = some (.int .i64 a0_0) := (q02 BK198.out 0).trans rfl
          have hcz75_1 : w5.cell? ⟨gb198, 1, none⟩ = some (.string a0_1) := (q02 BK198.out 1).trans rfl
          have hcz75_2 : w5.cell? ⟨gb198, 2, none⟩ = some (.slice A0_2 l0_2.length c0_2) := (q02 BK198.out 2).trans rfl
          have hcz75_3 : w5.cell? ⟨gb198, 3, none⟩ = some (.string a0_3) := (q02 BK198.out 3).trans rfl
          have hcz75_4 : w5.cell? ⟨gb198, 4, none⟩ = some (.int .i64 a0_4) := (q02 BK198.out 4).trans rfl
          have hcz75_5 : w5.cell? ⟨gb198, 5, none⟩ = some (.slice A0_5 l0_5.length c0_5) := (q02 BK198.out 5).trans rfl
          have hfz75_0 := q01 BK198.out 0
          have hfz75_1 := q01 BK198.out 1
          have hfz75_2 := q01 BK198.out 2
          have hfz75_3 := q01 BK198.out 3
          have hfz75_4 := q01 BK198.out 4
          have hfz75_5 := q01 BK198.out 5
          go_wp2
          repeat (go_quiet (fail); try go_wp2)
          go_meet
          case rel => exact ⟨_, (false), (by first | rfl | (simp; done) | simp [*]), H', ⟨by first | omega | exact Nat.le_refl _⟩, ⟨by (with_reducible repeat (first | refine kN ?_ _ | refine kD ?_ | refine kA ?_ _)); exact BK198.out⟩, ⟨by repeat (first | (with_reducible first | exact HB.out | apply bA | apply bN | apply bD | refine bS ?_ GE198.out) | exact HB.out)⟩⟩
        ·rw [if_neg c72] at H
         have c72b0 : (a0_0 == 3) = false := beq_eq_false_iff_ne.mpr c72
         have c72b1 : (a0_0 != 3) = true := bne_iff_ne.mpr c72
         by_cases c76 : a0_0 = 4
         ·rw [if_pos c76] at H
          have c76b0 : (a0_0 == 4) = true := beq_iff_eq.mpr c76
          have c76b1 : (a0_0 != 4) = false := bne_eq_false_iff_eq.mpr c76
          clear c76
          by_cases c77 : (l0_5.length : Int) > 0
          ·rw [if_pos c77] at H
           have c77b0 : decide (0 < (l0_5.length : Int)) = true := decide_eq_true c77
           have c77b1 : decide (0 < l0_5.length) = true := decide_eq_true (by omega)
           clear c77
           have H' := aS H
           clear H
           have hcz78_0 : w5.cell? ⟨gb198, 0, none⟩ = some (.int .i64 a0_0) := (q02 BK198.out 0).trans rfl
           have hcz78_1 : w5.cell? ⟨gb198, 1, none⟩ = some (.string a0_1) := (q02 BK198.out 1).trans rfl
           have hcz78_2 : w5.cell? ⟨gb198, 2, none⟩ = some (.slice A0_2 l0_2.length c0_2) := (q02 BK198.out 2).trans rfl
           have hcz78_3 : w5.cell? ⟨gb198, 3, none⟩ = some (.string a0_3) := (q02 BK198.out 3).trans rfl
           have hcz78_4 : w5.cell? ⟨gb198, 4, none⟩ = some (.int .i64 a0_4) := (q02 BK198.out 4).trans rfl
           have hcz78_5 : w5.cell? ⟨gb198, 5, none⟩ = some (.slice A0_5 l0_5.length c0_5) := (q02 BK198.out 5).trans rfl
           have hfz78_0 := q01 BK198.out 0
           have hfz78_1 := q01 BK198.out 1
           have hfz78_2 := q01 BK198.out 2
           have hfz78_3 := q01 BK198.out 3
           have hfz78_4 := q01 BK198.out 4
           have hfz78_5 := q01 BK198.out 5
           go_wp2
           repeat (go_quiet (fail); try go_wp2)
           go_meet
           case rel => exact ⟨_, (decide (a0_0 > 2)), (by first | rfl | (simp; done) | simp [*]), H', ⟨by first | omega | exact Nat.le_refl _⟩, ⟨by (with_reducible repeat (first | refine kN ?_ _ | refine kD ?_ | refine kA ?_ _)); exact BK198.out⟩, ⟨by repeat (first | (with_reducible first | exact HB.out | apply bA | apply bN | apply bD | refine bS ?_ GE198.out) | exact HB.out)⟩⟩
          ·rw [if_neg c77] at H
           have c77b0 : decide (0 < (l0_5.length : Int)) = false := decide_eq_false c77
           have c77b1 : decide (0 < l0_5.length) = false := decide_eq_false (by omega)
           clear c77
           have H' := aS H
           clear H
           have hcz79_0 : w5.cell? ⟨gb198, 0, none⟩ = some (.int .i64 a0_0) := (q02 BK198.out 0).trans rfl
           have hcz79_1 : w5.cell? ⟨gb198, 1, none⟩ = some (.string a0_1) := (q02 BK198.out 1).trans rfl
           have hcz79_2 : w5.cell? ⟨gb198, 2, none⟩ = some (.slice A0_2 l0_2.length c0_2) := (q02 BK198.out 2).trans rfl
           have hcz79_3 : w5.cell? ⟨gb198, 3, none⟩ = some (.string a0_3) := (q02 BK198.out 3).trans rfl
           have hcz79_4 : w5.cell? ⟨gb198, 4, none⟩ = some (.int .i64 a0_4) := (q02 BK198.out 4).trans rfl
           have hcz79_5 : w5.cell? ⟨gb198, 5, none⟩ = some (.slice A0_5 l0_5.length c0_5) := (q02 BK198.out 5).trans rfl
           have hfz79_0 := q01 BK198.out 0
           have hfz79_1 := q01 BK198.out 1
           have hfz79_2 := q01 BK198.out 2
           have hfz79_3 := q01 BK198.out 3
           have hfz79_4 := q01 BK198.out 4
           have hfz79_5 := q01 BK198.out 5
           go_wp2
           repeat (go_quiet (fail); try go_wp2)
           go_meet
           case rel => exact ⟨_, (false), (by first | rfl | (simp; done) | simp [*]), H', ⟨by first | omega | exact Nat.le_refl _⟩, ⟨by (with_reducible repeat (first | refine kN ?_ _ | refine kD ?_ | refine kA ?_ _)); exact BK198.out⟩, ⟨by repeat (first | (with_reducible first | exact HB.out | apply bA | apply bN | apply bD | refine bS ?_ GE198.out) | exact HB.out)⟩⟩
         ·rw [if_neg c76] at H
          have c76b0 : (a0_0 == 4) = false := beq_eq_false_iff_ne.mpr c76
          have c76b1 : (a0_0 != 4) = true := bne_iff_ne.mpr c76
          have H' := aS H
          clear H
          have hcz80_0 : w5.cell? ⟨gb198, 0, none⟩ = some (.int .i64 a0_0) := (q02 BK198.out 0).trans rfl
          have hcz80_1 : w5.cell? ⟨gb198, 1, none⟩ = some (.string a0_1) := (q02 BK198.out 1).trans rfl
          have hcz80_2 : w5.cell? ⟨gb198, 2, none⟩ = some (.slice A0_2 l0_2.length c0_2) := (q02 BK198.out 2).trans rfl
          have hcz80_3 : w5.cell? ⟨gb198, 3, none⟩ = some (.string a0_3) := (q02 BK198.out 3).trans rfl
          have hcz80_4 : w5.cell? ⟨gb198, 4, none⟩ = some (.int .i64 a0_4) := (q02 BK198.out 4).trans rfl
          have hcz80_5 : w5.cell? ⟨gb198, 5, none⟩ = some (.slice A0_5 l0_5.length c0_5) := (q02 BK198.out 5).trans rfl
          have hfz80_0 := q01 BK198.out 0
          have hfz80_1 := q01 BK198.out 1
          have hfz80_2 := q01 BK198.out 2
          have hfz80_3 := q01 BK198.out 3
          have hfz80_4 := q01 BK198.out 4
          have hfz80_5 := q01 BK198.out 5
          go_wp2
          repeat (go_quiet (fail); try go_wp2)
          go_meet
          case rel => exact ⟨_, (true), (by first | rfl | (simp; done) | simp [*]), H', ⟨by first | omega | exact Nat.le_refl _⟩, ⟨by (with_reducible repeat (first | refine kN ?_ _ | refine kD ?_ | refine kA ?_ _)); exact BK198.out⟩, ⟨by repeat (first | (with_reducible first | exact HB.out | apply bA | apply bN | apply bD | refine bS ?_ GE198.out) | exact HB.out)⟩⟩
     ·rw [if_neg c65] at H
      have c65b0 : (a0_0 == 5) = false := beq_eq_false_iff_ne.mpr c65
      have c65b1 : (a0_0 != 5) = true := bne_iff_ne.mpr c65
      have H' := aS H
      clear H
      have hcz81_0 : w5.cell? ⟨gb198, 0, none⟩ = some (.int .i64 a0_0) := (q02 BK198.out 0).trans rfl
      have hcz81_1 : w5.cell? ⟨gb198, 1, none⟩ = some (.string a0_1) := (q02 BK198.out 1).trans rfl
      have hcz81_2 : w5.cell? ⟨gb198, 2, none⟩ = some (.slice A0_2 l0_2.length c0_2) := (q02 BK198.out 2).trans rfl
      have hcz81_3 : w5.cell? ⟨gb198, 3, none⟩ = some (.string a0_3) := (q02 BK198.out 3).trans rfl
      have hcz81_4 : w5.cell? ⟨gb198, 4, none⟩ = some (.int .i64 a0_4) := (q02 BK198.out 4).trans rfl
      have hcz81_5 : w5.cell? ⟨gb198, 5, none⟩ = some (.slice A0_5 l0_5.length c0_5) := (q02 BK198.out 5).trans rfl
      have hfz81_0 := q01 BK198.out 0
      have hfz81_1 := q01 BK198.out 1
      have hfz81_2 := q01 BK198.out 2
      have hfz81_3 := q01 BK198.out 3
      have hfz81_4 := q01 BK198.out 4
      have hfz81_5 := q01 BK198.out 5
      go_wp2
      repeat (go_quiet (fail); try go_wp2)
      go_meet
      case rel => exact ⟨_, (true), (by first | rfl | (simp; done) | simp [*]), H', ⟨by first | omega | exact Nat.le_refl _⟩, ⟨by (with_reducible repeat (first | refine kN ?_ _ | refine kD ?_ | refine kA ?_ _)); exact BK198.out⟩, ⟨by repeat (first | (with_reducible first | exact HB.out | apply bA | apply bN | apply bD | refine bS ?_ GE198.out) | exact HB.out)⟩⟩
  case rest =>
   clear HC4
   try clear p2
   try clear c3
   try clear c4
   try clear c5
   try clear c6
   try clear c7
   try clear c37
   try clear c37b0
   try clear c37b1
   try clear c38
   try clear c38b0
   try clear c38b1
   try clear c39
   try clear c39b0
   try clear c39b1
   try clear c40
   try clear c40b0
   try clear c40b1
   try clear c43
   try clear c43b0
   try clear c43b1
   try clear c44
   try clear c44b0
   try clear c44b1
   try clear c47
   try clear c47b0
   try clear c47b1
   try clear c48
   try clear c48b0
   try clear c48b1
   try clear c52
   try clear c52b0
   try clear c52b1
   try clear c53
   try clear c53b0
   try clear c53b1
   try clear c56
   try clear c56b0
   try clear c56b1
   try clear c57
   try clear c57b0
   try clear c57b1
   try clear c60
   try clear c60b0
   try clear c60b1
   try clear c61
   try clear c61b0
   try clear c61b1
   try clear c65
   try clear c65b0
   try clear c65b1
   try clear c66
   try clear c66b0
   try clear c66b1
   try clear c68
   try clear c68b0
   try clear c68b1
   try clear c69
   try clear c69b0
   try clear c69b1
   try clear c72
   try clear c72b0
   try clear c72b1
   try clear c73
   try clear c73b0
   try clear c73b1
   try clear c76
   try clear c76b0
   try clear c76b1
   try clear c77
   try clear c77b0
   try clear c77b1
   try clear hcz41_0
   try clear hcz41_1
   try clear hcz41_2
   try clear hcz41_3
   try clear hcz41_4
   try clear hcz41_5
   try clear hcz42_0
   try clear hcz42_1
   try clear hcz42_2
   try clear hcz42_3
   try clear hcz42_4
   try clear hcz42_5
   try clear hcz45_0
   try clear hcz45_1
   try clear hcz45_2
   try clear hcz45_3
   try clear hcz45_4
   try clear hcz45_5
   try clear hcz46_0
   try clear hcz46_1
   try clear hcz46_2
   try clear hcz46_3
   try clear hcz46_4
   try clear hcz46_5
   try clear hcz49_0
   try clear hcz49_1
   try clear hcz49_2
   try clear hcz49_3
   try clear hcz49_4
   try clear hcz49_5
   try clear hcz50_0
   try clear hcz50_1
   try clear hcz50_2
   try clear hcz50_3
   try clear hcz50_4
   try clear hcz50_5
   try clear hcz51_0
   try clear hcz51_1
   try clear hcz51_2
   try clear hcz51_3
   try clear hcz51_4
   try clear hcz51_5
   try clear hcz54_0
   try clear hcz54_1
   try clear hcz54_2
   try clear hcz54_3
   try clear hcz54_4
   try clear hcz54_5
   try clear hcz55_0
   try clear hcz55_1
   try clear hcz55_2
   try clear hcz55_3
   try clear hcz55_4
   try clear hcz55_5
   try clear hcz58_0
   try clear hcz58_1
   try clear hcz58_2
   try clear hcz58_3
   try clear hcz58_4
   try clear hcz58_5
   try clear hcz59_0
   try clear hcz59_1
   try clear hcz59_2
   try clear hcz59_3
   try clear hcz59_4
   try clear hcz59_5
   try clear hcz62_0
   try clear hcz62_1
   try clear hcz62_2
   try clear hcz62_3
   try clear hcz62_4
   try clear hcz62_5
   try clear hcz63_0
   try clear hcz63_1
   try clear hcz63_2
   try clear hcz63_3
   try clear hcz63_4
   try clear hcz63_5
   try clear hcz64_0
   try clear hcz64_1
   try clear hcz64_2
   try clear hcz64_3
   try clear hcz64_4
   try clear hcz64_5
   try clear hcz67_0
   try clear hcz67_1
   try clear hcz67_2
   try clear hcz67_3
   try clear hcz67_4
   try clear hcz67_5
   try clear hcz70_0
   try clear hcz70_1
   try clear hcz70_2
   try clear hcz70_3
   try clear hcz70_4
   try clear hcz70_5
   try clear hcz71_0
   try clear hcz71_1
   try clear hcz71_2
   try clear hcz71_3
   try clear hcz71_4
   try clear hcz71_5
   try clear hcz74_0
   try clear hcz74_1
   try clear hcz74_2
   try clear hcz74_3
   try clear hcz74_4
   try clear hcz74_5
   try clear hcz75_0
   try clear hcz75_1
   try clear hcz75_2
   try clear hcz75_3
   try clear hcz75_4
   try clear hcz75_5
   try clear hcz78_0
   try clear hcz78_1
   try clear hcz78_2
   try clear hcz78_3
   try clear hcz78_4
   try clear hcz78_5
   try clear hcz79_0
   try clear hcz79_1
   try clear hcz79_2
   try clear hcz79_3
   try clear hcz79_4
   try clear hcz79_5
   try clear hcz80_0
   try clear hcz80_1
   try clear hcz80_2
   try clear hcz80_3
   try clear hcz80_4
   try clear hcz80_5
   try clear hcz81_0
   try clear hcz81_1
   try clear hcz81_2
   try clear hcz81_3
   try clear hcz81_4
   try clear hcz81_5
   try clear hfz41_0
   try clear hfz41_1
   try clear hfz41_2
   try clear hfz41_3
   try clear hfz41_4
   try clear hfz41_5
   try clear hfz42_0
   try clear hfz42_1
   try clear hfz42_2
   try clear hfz42_3
   try clear hfz42_4
   try clear hfz42_5
   try clear hfz45_0
   try clear hfz45_1
   try clear hfz45_2
   try clear hfz45_3
   try clear hfz45_4
   try clear hfz45_5
   try clear hfz46_0
   try clear hfz46_1
   try clear hfz46_2
   try clear hfz46_3
   try clear hfz46_4
   try clear hfz46_5
   try clear hfz49_0
   try clear hfz49_1
   try clear hfz49_2
   try clear hfz49_3
   try clear hfz49_4
   try clear hfz49_5
   try clear hfz50_0
   try clear hfz50_1
   try clear hfz50_2
   try clear hfz50_3
   try clear hfz50_4
   try clear hfz50_5
   try clear hfz51_0
   try clear hfz51_1
   try clear hfz51_2
   try clear hfz51_3
   try clear hfz51_4
   try clear hfz51_5
   try clear hfz54_0
   try clear hfz54_1
   try clear hfz54_2
   try clear hfz54_3
   try clear hfz54_4
   try clear hfz54_5
   try clear hfz55_0
   try clear hfz55_1
   try clear hfz55_2
   try clear hfz55_3
   try clear hfz55_4
   try clear hfz55_5
   try clear hfz58_0
   try clear hfz58_1
   try clear hfz58_2
   try clear hfz58_3
   try clear hfz58_4
   try clear hfz58_5
   try clear hfz59_0
   try clear hfz59_1
   try clear hfz59_2
   try clear hfz59_3
   try clear hfz59_4
   try clear hfz59_5
   try clear hfz62_0
   try clear hfz62_1
   try clear hfz62_2
   try clear hfz62_3
   try clear hfz62_4
   try clear hfz62_5
   try clear hfz63_0
   try clear hfz63_1
   try clear hfz63_2
   try clear hfz63_3
   try clear hfz63_4
   try clear hfz63_5
   try clear hfz64_0
   try clear hfz64_1
   try clear hfz64_2
   try clear hfz64_3
   try clear hfz64_4
   try clear hfz64_5
   try clear hfz67_0
   try clear hfz67_1
   try clear hfz67_2
   try clear hfz67_3
   try clear hfz67_4
   try clear hfz67_5
   try clear hfz70_0
   try clear hfz70_1
   try clear hfz70_2
   try clear hfz70_3
   try clear hfz70_4
   try clear hfz70_5
   try clear hfz71_0
   try clear hfz71_1
   try clear hfz71_2
   try clear hfz71_3
   try clear hfz71_4
   try clear hfz71_5
   try clear hfz74_0
   try clear hfz74_1
   try clear hfz74_2
   try clear hfz74_3
   try clear hfz74_4
   try clear hfz74_5
   try clear hfz75_0
   try clear hfz75_1
   try clear hfz75_2
   try clear hfz75_3
   try clear hfz75_4
   try clear hfz75_5
   try clear hfz78_0
   try clear hfz78_1
   try clear hfz78_2
   try clear hfz78_3
   try clear hfz78_4
   try clear hfz78_5
   try clear hfz79_0
   try clear hfz79_1
   try clear hfz79_2
   try clear hfz79_3
   try clear hfz79_4
   try clear hfz79_5
   try clear hfz80_0
   try clear hfz80_1
   try clear hfz80_2
   try clear hfz80_3
   try clear hfz80_4
   try clear hfz80_5
   try clear hfz81_0
   try clear hfz81_1
   try clear hfz81_2
   try clear hfz81_3
   try clear hfz81_4
   try clear hfz81_5
   obtain ⟨kq, x59_3, rfl, HA, HJ3, BK198, HB⟩ := hcut
   cases kq with
   | zero => exact absurd HA.out (by simp [q00.j0])
   | succ kj3 =>
    have H := HA.out
    clear HA
    simp only [q00.j0] at H
    by_cases c82 : x59_3 = true
    ·subst c82
     have H1 : (some 7) = some r := by rw [if_pos rfl] at H; exact H
     clear H
     have H := H1
     clear H1
     obtain rfl := Option.some.inj H
     go_wp2
     repeat (go_quiet (fail); try go_wp2)
     go_ret
     exact ⟨by first | rfl | (simp [q0b, q0a] <;> rfl) | (simp [*, q0b, q0a] <;> rfl), by repeat (first | (with_reducible first | exact HB.out | apply bA | apply bN | apply bD | refine bS ?_ GE198.out) | exact HB.out)⟩
    ·replace c82 := Bool.eq_false_iff.mpr c82
     subst c82
     have H1 : (if a0_0 = 2 then ((q04.f kj3 a0_1 true).bind fun t200 => (q00.j1 kj3 (!t200) a0_0 a0_1 l0_2 a0_3 a0_4 l0_5)) else (q00.j1 kj3 false a0_0 a0_1 l0_2 a0_3 a0_4 l0_5)) = some r := by rw [if_neg (show ¬ (false = true) by decide)] at H; exact H
     clear H
     have H := H1
     clear H1
     have HC83 := aS H
     clear H
     go_upto_region 5 with (fail)
     repeat (go_quiet (fail); go_upto_region 5 with (fail))
     go_cut [68] (fun v68 wc => ∃ (kq : Nat) (x68_82 : Bool), v68 = .bool x68_82 ∧ Aside0 (q00.j1 kq x68_82 a0_0 a0_1 l0_2 a0_3 a0_4 l0_5 = some r) ∧ Aside0 (kq ≤ kj3) ∧ Aside0 (wc.heap[gb198]? = some (.cells #[.int .i64 a0_0, .string a0_1, (.slice A0_2 l0_2.length c0_2), .string a0_3, .int .i64 a0_4, (.slice A0_5 l0_5.length c0_5)] 43 (0, 0))) ∧ Aside0 (Below w.heap.size w wc))
     case first =>
      have H := HC83.out
      clear HC83
      by_cases c84 : a0_0 = 2
      ·rw [if_pos c84] at H
       have c84b0 : (a0_0 == 2) = true := beq_iff_eq.mpr c84
       have c84b1 : (a0_0 != 2) = false := bne_eq_false_iff_eq.mpr c84
       clear c84
       (first | rw [c84b0] | (simp only [q1e, q1i]; rw [c84b0]) | skip)
       replace H := Option.bind_eq_some_iff.mp H
       obtain ⟨t200, A850, H⟩ := H
       replace H : (q00.j1 kj3 (!t200) a0_0 a0_1 l0_2 a0_3 a0_4 l0_5) = some r := H
       have A85 := aS A850
       clear A850
       have H' := aS H
       clear H
       have hcz86_0 : wc.cell? ⟨gb198, 0, none⟩ = some (.int .i64 a0_0) := (q02 BK198.out 0).trans rfl
       have hcz86_1 : wc.cell? ⟨gb198, 1, none⟩ = some (.string a0_1) := (q02 BK198.out 1).trans rfl
       have hcz86_2 : wc.cell? ⟨gb198, 2, none⟩ = some (.slice A0_2 l0_2.length c0_2) := (q02 BK198.out 2).trans rfl
       have hcz86_3 : wc.cell? ⟨gb198, 3, none⟩ = some (.string a0_3) := (q02 BK198.out 3).trans rfl
       have hcz86_4 : wc.cell? ⟨gb198, 4, none⟩ = some (.int .i64 a0_4) := (q02 BK198.out 4).trans rfl
       have hcz86_5 : wc.cell? ⟨gb198, 5, none⟩ = some (.slice A0_5 l0_5.length c0_5) := (q02 BK198.out 5).trans rfl
       have hfz86_0 := q01 BK198.out 0
       have hfz86_1 := q01 BK198.out 1
       have hfz86_2 := q01 BK198.out 2
       have hfz86_3 := q01 BK198.out 3
       have hfz86_4 := q01 BK198.out 4
       have hfz86_5 := q01 BK198.out 5
       go_wp2_with (first | (go_at_call 120; (with_reducible refine (q04.calls kj3 a0_1 true t200 _ A85.out).mono ?_); rintro e w' ⟨rfl, ⟨nd, rfl⟩⟩; (try first | exact ⟨rfl, _, World.drewN_drewN _ _ _⟩ | exact ⟨rfl, _, Eq.trans (World.drewN_drewN _ _ _) (congrArg (World.drewN _) (Nat.add_assoc _ _ _))⟩)))
       repeat (go_quiet (first | (go_at_call 120; (with_reducible refine (q04.calls kj3 a0_1 true t200 _ A85.out).mono ?_); rintro e w' ⟨rfl, ⟨nd, rfl⟩⟩; (try first | exact ⟨rfl, _, World.drewN_drewN _ _ _⟩ | exact ⟨rfl, _, Eq.trans (World.drewN_drewN _ _ _) (congrArg (World.drewN _) (Nat.add_assoc _ _ _))⟩))); try go_wp2_with (first | (go_at_call 120; (with_reducible refine (q04.calls kj3 a0_1 true t200 _ A85.out).mono ?_); rintro e w' ⟨rfl, ⟨nd, rfl⟩⟩; (try first | exact ⟨rfl, _, World.drewN_drewN _ _ _⟩ | exact ⟨rfl, _, Eq.trans (World.drewN_drewN _ _ _) (congrArg (World.drewN _) (Nat.add_assoc _ _ _))⟩))))
       go_meet
       case rel => exact ⟨_, (!t200), (by first | rfl | (simp; done) | simp [*]), H', ⟨by have := HJ3.out; first | omega | exact Nat.le_refl _⟩, ⟨by (with_reducible repeat (first | refine kN ?_ _ | refine kD ?_ | refine kA ?_ _)); exact BK198.out⟩, ⟨by repeat (first | (with_reducible first | exact HB.out | apply bA | apply bN | apply bD | refine bS ?_ GE198.out) | exact HB.out)⟩⟩
      ·rw [if_neg c84] at H
       have c84b0 : (a0_0 == 2) = false := beq_eq_false_iff_ne.mpr c84
       have c84b1 : (a0_0 != 2) = true := bne_iff_ne.mpr c84
       (first | rw [c84b0] | (simp only [q1e, q1i]; rw [c84b0]) | skip)
       have H' := aS H
       clear H
       have hcz87_0 : wc.cell? ⟨gb198, 0, none⟩ = some (.int .i64 a0_0) := (q02 BK198.out 0).trans rfl
       have hcz87_1 : wc.cell? ⟨gb198, 1, none⟩ = some (.string a0_1) := (q02 BK198.out 1).trans rfl
       have hcz87_2 : wc.cell? ⟨gb198, 2, none⟩ = some (.slice A0_2 l0_2.length c0_2) := (q02 BK198.out 2).trans rfl
       have hcz87_3 : wc.cell? ⟨gb198, 3, none⟩ = some (.string a0_3) := (q02 BK198.out 3).trans rfl
       have hcz87_4 : wc.cell? ⟨gb198, 4, none⟩ = some (.int .i64 a0_4) := (q02 BK198.out 4).trans rfl
       have hcz87_5 : wc.cell? ⟨gb198, 5, none⟩ = some (.slice A0_5 l0_5.length c0_5) := (q02 BK198.out 5).trans rfl
       have hfz87_0 := q01 BK198.out 0
       have hfz87_1 := q01 BK198.out 1
       have hfz87_2 := q01 BK198.out 2
       have hfz87_3 := q01 BK198.out 3
       have hfz87_4 := q01 BK198.out 4
       have hfz87_5 := q01 BK198.out 5
       go_wp2
       repeat (go_quiet (fail); try go_wp2)
       go_meet
       case rel => exact ⟨_, (false), (by first | rfl | (simp; done) | simp [*]), H', ⟨by have := HJ3.out; first | omega | exact Nat.le_refl _⟩, ⟨by (with_reducible repeat (first | refine kN ?_ _ | refine kD ?_ | refine kA ?_ _)); exact BK198.out⟩, ⟨by repeat (first | (with_reducible first | exact HB.out | apply bA | apply bN | apply bD | refine bS ?_ GE198.out) | exact HB.out)⟩⟩
     case rest =>
      clear HC83
      try clear p2
      try clear c3
      try clear c4
      try clear c5
      try clear c6
      try clear c7
      try clear c8
      try clear c37
      try clear c37b0
      try clear c37b1
      try clear c38
      try clear c38b0
      try clear c38b1
      try clear c39
      try clear c39b0
      try clear c39b1
      try clear c40
      try clear c40b0
      try clear c40b1
      try clear c43
      try clear c43b0
      try clear c43b1
      try clear c44
      try clear c44b0
      try clear c44b1
      try clear c47
      try clear c47b0
      try clear c47b1
      try clear c48
      try clear c48b0
      try clear c48b1
      try clear c52
      try clear c52b0
      try clear c52b1
      try clear c53
      try clear c53b0
      try clear c53b1
      try clear c56
      try clear c56b0
      try clear c56b1
      try clear c57
      try clear c57b0
      try clear c57b1
      try clear c60
      try clear c60b0
      try clear c60b1
      try clear c61
      try clear c61b0
      try clear c61b1
      try clear c65
      try clear c65b0
      try clear c65b1
      try clear c66
      try clear c66b0
      try clear c66b1
      try clear c68
      try clear c68b0
      try clear c68b1
      try clear c69
      try clear c69b0
      try clear c69b1
      try clear c72
      try clear c72b0
      try clear c72b1
      try clear c73
      try clear c73b0
      try clear c73b1
      try clear c76
      try clear c76b0
      try clear c76b1
      try clear c77
      try clear c77b0
      try clear c77b1
      try clear c82
      try clear c84
      try clear c84b0
      try clear c84b1
      try clear hcz41_0
      try clear hcz41_1
      try clear hcz41_2
      try clear hcz41_3
      try clear hcz41_4
      try clear hcz41_5
      try clear hcz42_0
      try clear hcz42_1
      try clear hcz42_2
      try clear hcz42_3
      try clear hcz42_4
      try clear hcz42_5
      try clear hcz45_0
      try clear hcz45_1
      try clear hcz45_2
      try clear hcz45_3
      try clear hcz45_4
      try clear hcz45_5
      try clear hcz46_0
      try clear hcz46_1
      try clear hcz46_2
      try clear hcz46_3
      try clear hcz46_4
      try clear hcz46_5
      try clear hcz49_0
      try clear hcz49_1
      try clear hcz49_2
      try clear hcz49_3
      try clear hcz49_4
      try clear hcz49_5
      try clear hcz50_0
      try clear hcz50_1
      try clear hcz50_2
      try clear hcz50_3
      try clear hcz50_4
      try clear hcz50_5
      try clear hcz51_0
      try clear hcz51_1
      try clear hcz51_2
      try clear hcz51_3
      try clear hcz51_4
      try clear hcz51_5
      try clear hcz54_0
      try clear hcz54_1
      try clear hcz54_2
      try clear hcz54_3
      try clear hcz54_4
      try clear hcz54_5
      try clear hcz55_0
      try clear hcz55_1
      try clear hcz55_2
      try clear hcz55_3
      try clear hcz55_4
      try clear hcz55_5
      try clear hcz58_0
      try clear hcz58_1
      try clear hcz58_2
      try clear hcz58_3
      try clear hcz58_4
      try clear hcz58_5
      try clear hcz59_0
      try clear hcz59_1
      try clear hcz59_2
      try clear hcz59_3
      try clear hcz59_4
      try clear hcz59_5
      try clear hcz62_0
      try clear hcz62_1
      try clear hcz62_2
      try clear hcz62_3
      try clear hcz62_4
      try clear hcz62_5
      try clear hcz63_0
      try clear hcz63_1
      try clear hcz63_2
      try clear hcz63_3
      try clear hcz63_4
      try clear hcz63_5
      try clear hcz64_0
      try clear hcz64_1
      try clear hcz64_2
      try clear hcz64_3
      try clear hcz64_4
      try clear hcz64_5
      try clear hcz67_0
      try clear hcz67_1
      try clear hcz67_2
      try clear hcz67_3
      try clear hcz67_4
      try clear hcz67_5
      try clear hcz70_0
      try clear hcz70_1
      try clear hcz70_2
      try clear hcz70_3
      try clear hcz70_4
      try clear hcz70_5
      try clear hcz71_0
      try clear hcz71_1
      try clear hcz71_2
      try clear hcz71_3
      try clear hcz71_4
      try clear hcz71_5
      try clear hcz74_0
      try clear hcz74_1
      try clear hcz74_2
      try clear hcz74_3
      try clear hcz74_4
      try clear hcz74_5
      try clear hcz75_0
      try clear hcz75_1
      try clear hcz75_2
      try clear hcz75_3
      try clear hcz75_4
      try clear hcz75_5
      try clear hcz78_0
      try clear hcz78_1
      try clear hcz78_2
      try clear hcz78_3
      try clear hcz78_4
      try clear hcz78_5
      try clear hcz79_0
      try clear hcz79_1
      try clear hcz79_2
      try clear hcz79_3
      try clear hcz79_4
      try clear hcz79_5
      try clear hcz80_0
      try clear hcz80_1
      try clear hcz80_2
      try clear hcz80_3
      try clear hcz80_4
      try clear hcz80_5
      try clear hcz81_0
      try clear hcz81_1
      try clear hcz81_2
      try clear hcz81_3
      try clear hcz81_4
      try clear hcz81_5
      try clear hcz86_0
      try clear hcz86_1
      try clear hcz86_2
      try clear hcz86_3
      try clear hcz86_4
      try clear hcz86_5
      try clear hcz87_0
      try clear hcz87_1
      try clear hcz87_2
      try clear hcz87_3
      try clear hcz87_4
      try clear hcz87_5
      try clear hfz41_0
      try clear hfz41_1
      try clear hfz41_2
      try clear hfz41_3
      try clear hfz41_4
      try clear hfz41_5
      try clear hfz42_0
      try clear hfz42_1
      try clear hfz42_2
      try clear hfz42_3
      try clear hfz42_4
      try clear hfz42_5
      try clear hfz45_0
      try clear hfz45_1
      try clear hfz45_2
      try clear hfz45_3
      try clear hfz45_4
      try clear hfz45_5
      try clear hfz46_0
      try clear hfz46_1
      try clear hfz46_2
      try clear hfz46_3
      try clear hfz46_4
      try clear hfz46_5
      try clear hfz49_0
      try clear hfz49_1
      try clear hfz49_2
      try clear hfz49_3
      try clear hfz49_4
      try clear hfz49_5
      try clear hfz50_0
      try clear hfz50_1
      try clear hfz50_2
      try clear hfz50_3
      try clear hfz50_4
      try clear hfz50_5
      try clear hfz51_0
      try clear hfz51_1
      try clear hfz51_2
      try clear hfz51_3
      try clear hfz51_4
      try clear hfz51_5
      try clear hfz54_0
      try clear hfz54_1
      try clear hfz54_2
      try clear hfz54_3
      try clear hfz54_4
      try clear hfz54_5
      try clear hfz55_0
      try clear hfz55_1
      try clear hfz55_2
      try clear hfz55_3
      try clear hfz55_4
      try clear hfz55_5
      try clear hfz58_0
      try clear hfz58_1
      try clear hfz58_2
      try clear hfz58_3
      try clear hfz58_4
      try clear hfz58_5
      try clear hfz59_0
      try clear hfz59_1
      try clear hfz59_2
      try clear hfz59_3
      try clear hfz59_4
      try clear hfz59_5
      try clear hfz62_0
      try clear hfz62_1
      try clear hfz62_2
      try clear hfz62_3
      try clear hfz62_4
      try clear hfz62_5
      try clear hfz63_0
      try clear hfz63_1
      try clear hfz63_2
      try clear hfz63_3
      try clear hfz63_4
      try clear hfz63_5
      try clear hfz64_0
      try clear hfz64_1
      try clear hfz64_2
      try clear hfz64_3
      try clear hfz64_4
      try clear hfz64_5
      try clear hfz67_0
      try clear hfz67_1
      try clear hfz67_2
      try clear hfz67_3
      try clear hfz67_4
      try clear hfz67_5
      try clear hfz70_0
      try clear hfz70_1
      try clear hfz70_2
      try clear hfz70_3
      try clear hfz70_4
      try clear hfz70_5
      try clear hfz71_0
      try clear hfz71_1
      try clear hfz71_2
      try clear hfz71_3
      try clear hfz71_4
      try clear hfz71_5
      try clear hfz74_0
      try clear hfz74_1
      try clear hfz74_2
      try clear hfz74_3
      try clear hfz74_4
      try clear hfz74_5
      try clear hfz75_0
      try clear hfz75_1
      try clear hfz75_2
      try clear hfz75_3
      try clear hfz75_4
      try clear hfz75_5
      try clear hfz78_0
      try clear hfz78_1
      try clear hfz78_2
      try clear hfz78_3
      try clear hfz78_4
      try clear hfz78_5
      try clear hfz79_0
      try clear hfz79_1
      try clear hfz79_2
      try clear hfz79_3
      try clear hfz79_4
      try clear hfz79_5
      try clear hfz80_0
      try clear hfz80_1
      try clear hfz80_2
      try clear hfz80_3
      try clear hfz80_4
      try clear hfz80_5
      try clear hfz81_0
      try clear hfz81_1
      try clear hfz81_2
      try clear hfz81_3
      try clear hfz81_4
      try clear hfz81_5
      try clear hfz86_0
      try clear hfz86_1
      try clear hfz86_2
      try clear hfz86_3
      try clear hfz86_4
      try clear hfz86_5
      try clear hfz87_0
      try clear hfz87_1
      try clear hfz87_2
      try clear hfz87_3
      try clear hfz87_4
      try clear hfz87_5
      try clear p2
      obtain ⟨kq, x68_82, rfl, HA, HJ82, BK198, HB⟩ := hcut
      cases kq with
      | zero => exact absurd HA.out (by simp [q00.j1])
      | succ kj82 =>
       have H := HA.out
       clear HA
       simp only [q00.j1] at H
       by_cases c88 : x68_82 = true
       ·subst c88
        have H1 : (some 3) = some r := by rw [if_pos rfl] at H; exact H
        clear H
        have H := H1
        clear H1
        obtain rfl := Option.some.inj H
        go_wp2
        repeat (go_quiet (fail); try go_wp2)
        go_ret
        exact ⟨by first | rfl | (simp [q0b, q0a] <;> rfl) | (simp [*, q0b, q0a] <;> rfl), by repeat (first | (with_reducible first | exact HB.out | apply bA | apply bN | apply bD | refine bS ?_ GE198.out) | exact HB.out)⟩
       ·replace c88 := Bool.eq_false_iff.mpr c88
        subst c88
        have H1 : (if (l0_2.length : Int) > 12 then (some 2) else (q00.l0 kj82 0 a0_0 a0_1 l0_2 a0_3 a0_4 l0_5)) = some r := by rw [if_neg (show ¬ (false = true) by decide)] at H; exact H
        clear H
        have H := H1
        clear H1
        by_cases c89 : (l0_2.length : Int) > 12
        ·rw [if_pos c89] at H
         have c89b0 : decide (12 < (l0_2.length : Int)) = true := decide_eq_true c89
         have c89b1 : decide (12 < l0_2.length) = true := decide_eq_true (by omega)
         clear c89
         obtain rfl := Option.some.inj H
         have hcz90_0 : wc.cell? ⟨gb198, 0, none⟩ = some (.int .i64 a0_0) := (q02 BK198.out 0).trans rfl
         have hcz90_1 : wc.cell? ⟨gb198, 1, none⟩ = some (.string a0_1) := (q02 BK198.out 1).trans rfl
         have hcz90_2 : wc.cell? ⟨gb198, 2, none⟩ = some (.slice A0_2 l0_2.length c0_2) := (q02 BK198.out 2).trans rfl
         have hcz90_3 : wc.cell? ⟨gb198, 3, none⟩ = some (.string a0_3) := (q02 BK198.out 3).trans rfl
         have hcz90_4 : wc.cell? ⟨gb198, 4, none⟩ = some (.int .i64 a0_4) := (q02 BK198.out 4).trans rfl
         have hcz90_5 : wc.cell? ⟨gb198, 5, none⟩ = some (.slice A0_5 l0_5.length c0_5) := (q02 BK198.out 5).trans rfl
         have hfz90_0 := q01 BK198.out 0
         have hfz90_1 := q01 BK198.out 1
         have hfz90_2 := q01 BK198.out 2
         have hfz90_3 := q01 BK198.out 3
         have hfz90_4 := q01 BK198.out 4
         have hfz90_5 := q01 BK198.out 5
         go_wp2
         repeat (go_quiet (fail); try go_wp2)
         go_ret
         exact ⟨by first | rfl | (simp [q0b, q0a] <;> rfl) | (simp [*, q0b, q0a] <;> rfl), by repeat (first | (with_reducible first | exact HB.out | apply bA | apply bN | apply bD | refine bS ?_ GE198.out) | exact HB.out)⟩
        ·rw [if_neg c89] at H
         have c89b0 : decide (12 < (l0_2.length : Int)) = false := decide_eq_false c89
         have c89b1 : decide (12 < l0_2.length) = false := decide_eq_false (by omega)
         clear c89
         have H' := aS H
         clear H
         have hcz91_0 : wc.cell? ⟨gb198, 0, none⟩ = some (.int .i64 a0_0) := (q02 BK198.out 0).trans rfl
         have hcz91_1 : wc.cell? ⟨gb198, 1, none⟩ = some (.string a0_1) := (q02 BK198.out 1).trans rfl
         have hcz91_2 : wc.cell? ⟨gb198, 2, none⟩ = some (.slice A0_2 l0_2.length c0_2) := (q02 BK198.out 2).trans rfl
         have hcz91_3 : wc.cell? ⟨gb198, 3, none⟩ = some (.string a0_3) := (q02 BK198.out 3).trans rfl
         have hcz91_4 : wc.cell? ⟨gb198, 4, none⟩ = some (.int .i64 a0_4) := (q02 BK198.out 4).trans rfl
         have hcz91_5 : wc.cell? ⟨gb198, 5, none⟩ = some (.slice A0_5 l0_5.length c0_5) := (q02 BK198.out 5).trans rfl
         have hfz91_0 := q01 BK198.out 0
         have hfz91_1 := q01 BK198.out 1
         have hfz91_2 := q01 BK198.out 2
         have hfz91_3 := q01 BK198.out 3
         have hfz91_4 := q01 BK198.out 4
         have hfz91_5 := q01 BK198.out 5
         go_wp2
         repeat (go_quiet (fail); try go_wp2)
         go_loopg [3] kj82 (fun kq v3 w' => ∃ (x3_3 : Int), v3 = .int .i64 x3_3 ∧ Aside0 (q00.l0 kq x3_3 a0_0 a0_1 l0_2 a0_3 a0_4 l0_5 = some r) ∧ Aside0 (kq ≤ kj82) ∧ Aside0 (w'.heap[gb198]? = some (.cells #[.int .i64 a0_0, .string a0_1, (.slice A0_2 l0_2.length c0_2), .string a0_3, .int .i64 a0_4, (.slice A0_5 l0_5.length c0_5)] 43 (0, 0))) ∧ Aside0 (Below w.heap.size w w'))
         case atStart => exact ⟨(0), (by first | rfl | (simp; done) | simp [*]), H', ⟨Nat.le_refl _⟩, ⟨by (with_reducible repeat (first | refine kN ?_ _ | refine kD ?_ | refine kA ?_ _)); exact BK198.out⟩, ⟨by repeat (first | (with_reducible first | exact HB.out | apply bA | apply bN | apply bD | refine bS ?_ GE198.out) | exact HB.out)⟩⟩
         case round =>
          clear H'
          try clear p2
          try clear c3
          try clear c4
          try clear c5
          try clear c6
          try clear c7
          try clear c8
          try clear c37
          try clear c37b0
          try clear c37b1
          try clear c38
          try clear c38b0
          try clear c38b1
          try clear c39
          try clear c39b0
          try clear c39b1
          try clear c40
          try clear c40b0
          try clear c40b1
          try clear c43
          try clear c43b0
          try clear c43b1
          try clear c44
          try clear c44b0
          try clear c44b1
          try clear c47
          try clear c47b0
          try clear c47b1
          try clear c48
          try clear c48b0
          try clear c48b1
          try clear c52
          try clear c52b0
          try clear c52b1
          try clear c53
          try clear c53b0
          try clear c53b1
          try clear c56
          try clear c56b0
          try clear c56b1
          try clear c57
          try clear c57b0
          try clear c57b1
          try clear c60
          try clear c60b0
          try clear c60b1
          try clear c61
          try clear c61b0
          try clear c61b1
          try clear c65
          try clear c65b0
          try clear c65b1
          try clear c66
          try clear c66b0
          try clear c66b1
          try clear c68
          try clear c68b0
          try clear c68b1
          try clear c69
          try clear c69b0
          try clear c69b1
          try clear c72
          try clear c72b0
          try clear c72b1
          try clear c73
          try clear c73b0
          try clear c73b1
          try clear c76
          try clear c76b0
          try clear c76b1
          try clear c77
          try clear c77b0
          try clear c77b1
          try clear c82
          try clear c84
          try clear c84b0
          try clear c84b1
          try clear c88
          try clear c89
          try clear c89b0
          try clear c89b1
          try clear hcz41_0
          try clear hcz41_1
          try clear hcz41_2
          try clear hcz41_3
          try clear hcz41_4
          try clear hcz41_5
          try clear hcz42_0
          try clear hcz42_1
          try clear hcz42_2
          try clear hcz42_3
          try clear hcz42_4
          try clear hcz42_5
          try clear hcz45_0
          try clear hcz45_1
          try clear hcz45_2
          try clear hcz45_3
          try clear hcz45_4
          try clear hcz45_5
          try clear hcz46_0
          try clear hcz46_1
          try clear hcz46_2
          try clear hcz46_3
          try clear hcz46_4
          try clear hcz46_5
          try clear hcz49_0
          try clear hcz49_1
          try clear hcz49_2
          try clear hcz49_3
          try clear hcz49_4
          try clear hcz49_5
          try clear hcz50_0
          try clear hcz50_1
          try clear hcz50_2
          try clear hcz50_3
          try clear hcz50_4
          try clear hcz50_5
          try clear hcz51_0
          try clear hcz51_1
          try clear hcz51_2
          try clear hcz51_3
          try clear hcz51_4
          try clear hcz51_5
          try clear hcz54_0
          try clear hcz54_1
          try clear hcz54_2
          try clear hcz54_3
          try clear hcz54_4
          try clear hcz54_5
          try clear hcz55_0
          try clear hcz55_1
          try clear hcz55_2
          try clear hcz55_3
          try clear hcz55_4
          try clear hcz55_5
          try clear hcz58_0
          try clear hcz58_1
          try clear hcz58_2
          try clear hcz58_3
          try clear hcz58_4
          try clear hcz58_5
          try clear hcz59_0
          try clear hcz59_1
          try clear hcz59_2
          try clear hcz59_3
          try clear hcz59_4
          try clear hcz59_5
          try clear hcz62_0
          try clear hcz62_1
          try clear hcz62_2
          try clear hcz62_3
          try clear hcz62_4
          try clear hcz62_5
          try clear hcz63_0
          try clear hcz63_1
          try clear hcz63_2
          try clear hcz63_3
          try clear hcz63_4
          try clear hcz63_5
          try clear hcz64_0
          try clear hcz64_1
          try clear hcz64_2
          try clear hcz64_3
          try clear hcz64_4
          try clear hcz64_5
          try clear hcz67_0
          try clear hcz67_1
          try clear hcz67_2
          try clear hcz67_3
          try clear hcz67_4
          try clear hcz67_5
          try clear hcz70_0
          try clear hcz70_1
          try clear hcz70_2
          try clear hcz70_3
          try clear hcz70_4
          try clear hcz70_5
          try clear hcz71_0
          try clear hcz71_1
          try clear hcz71_2
          try clear hcz71_3
          try clear hcz71_4
          try clear hcz71_5
          try clear hcz74_0
          try clear hcz74_1
          try clear hcz74_2
          try clear hcz74_3
          try clear hcz74_4
          try clear hcz74_5
          try clear hcz75_0
          try clear hcz75_1
          try clear hcz75_2
          try clear hcz75_3
          try clear hcz75_4
          try clear hcz75_5
          try clear hcz78_0
          try clear hcz78_1
          try clear hcz78_2
          try clear hcz78_3
          try clear hcz78_4
          try clear hcz78_5
          try clear hcz79_0
          try clear hcz79_1
          try clear hcz79_2
          try clear hcz79_3
          try clear hcz79_4
          try clear hcz79_5
          try clear hcz80_0
          try clear hcz80_1
          try clear hcz80_2
          try clear hcz80_3
          try clear hcz80_4
          try clear hcz80_5
          try clear hcz81_0
          try clear hcz81_1
          try clear hcz81_2
          try clear hcz81_3
          try clear hcz81_4
          try clear hcz81_5
          try clear hcz86_0
          try clear hcz86_1
          try clear hcz86_2
          try clear hcz86_3
          try clear hcz86_4
          try clear hcz86_5
          try clear hcz87_0
          try clear hcz87_1
          try clear hcz87_2
          try clear hcz87_3
          try clear hcz87_4
          try clear hcz87_5
          try clear hcz90_0
          try clear hcz90_1
          try clear hcz90_2
          try clear hcz90_3
          try clear hcz90_4
          try clear hcz90_5
          try clear hcz91_0
          try clear hcz91_1
          try clear hcz91_2
          try clear hcz91_3
          try clear hcz91_4
          try clear hcz91_5
          try clear hfz41_0
          try clear hfz41_1
          try clear hfz41_2
          try clear hfz41_3
          try clear hfz41_4
          try clear hfz41_5
          try clear hfz42_0
          try clear hfz42_1
          try clear hfz42_2
          try clear hfz42_3
          try clear hfz42_4
          try clear hfz42_5
          try clear hfz45_0
          try clear hfz45_1
          try clear hfz45_2
          try clear hfz45_3
          try clear hfz45_4
          try clear hfz45_5
          try clear hfz46_0
          try clear hfz46_1
          try clear hfz46_2
          try clear hfz46_3
          try clear hfz46_4
          try clear hfz46_5
          try clear hfz49_0
          try clear hfz49_1
          try clear hfz49_2
          try clear hfz49_3
          try clear hfz49_4
          try clear hfz49_5
          try clear hfz50_0
          try clear hfz50_1
          try clear hfz50_2
          try clear hfz50_3
          try clear hfz50_4
          try clear hfz50_5
          try clear hfz51_0
          try clear hfz51_1
          try clear hfz51_2
          try clear hfz51_3
          try clear hfz51_4
          try clear hfz51_5
          try clear hfz54_0
          try clear hfz54_1
          try clear hfz54_2
          try clear hfz54_3
          try clear hfz54_4
          try clear hfz54_5
          try clear hfz55_0
          try clear hfz55_1
          try clear hfz55_2
          try clear hfz55_3
          try clear hfz55_4
          try clear hfz55_5
          try clear hfz58_0
          try clear hfz58_1
          try clear hfz58_2
          try clear hfz58_3
          try clear hfz58_4
          try clear hfz58_5
          try clear hfz59_0
          try clear hfz59_1
          try clear hfz59_2
          try clear hfz59_3
          try clear hfz59_4
          try clear hfz59_5
          try clear hfz62_0
          try clear hfz62_1
          try clear hfz62_2
          try clear hfz62_3
          try clear hfz62_4
          try clear hfz62_5
          try clear hfz63_0
          try clear hfz63_1
          try clear hfz63_2
          try clear hfz63_3
          try clear hfz63_4
          try clear hfz63_5
          try clear hfz64_0
          try clear hfz64_1
          try clear hfz64_2
          try clear hfz64_3
          try clear hfz64_4
          try clear hfz64_5
          try clear hfz67_0
          try clear hfz67_1
          try clear hfz67_2
          try clear hfz67_3
          try clear hfz67_4
          try clear hfz67_5
          try clear hfz70_0
          try clear hfz70_1
          try clear hfz70_2
          try clear hfz70_3
          try clear hfz70_4
          try clear hfz70_5
          try clear hfz71_0
          try clear hfz71_1
          try clear hfz71_2
          try clear hfz71_3
          try clear hfz71_4
          try clear hfz71_5
          try clear hfz74_0
          try clear hfz74_1
          try clear hfz74_2
          try clear hfz74_3
          try clear hfz74_4
          try clear hfz74_5
          try clear hfz75_0
          try clear hfz75_1
          try clear hfz75_2
          try clear hfz75_3
          try clear hfz75_4
          try clear hfz75_5
          try clear hfz78_0
          try clear hfz78_1
          try clear hfz78_2
          try clear hfz78_3
          try clear hfz78_4
          try clear hfz78_5
          try clear hfz79_0
          try clear hfz79_1
          try clear hfz79_2
          try clear hfz79_3
          try clear hfz79_4
          try clear hfz79_5
          try clear hfz80_0
          try clear hfz80_1
          try clear hfz80_2
          try clear hfz80_3
          try clear hfz80_4
          try clear hfz80_5
          try clear hfz81_0
          try clear hfz81_1
          try clear hfz81_2
          try clear hfz81_3
          try clear hfz81_4
          try clear hfz81_5
          try clear hfz86_0
          try clear hfz86_1
          try clear hfz86_2
          try clear hfz86_3
          try clear hfz86_4
          try clear hfz86_5
          try clear hfz87_0
          try clear hfz87_1
          try clear hfz87_2
          try clear hfz87_3
          try clear hfz87_4
          try clear hfz87_5
          try clear hfz90_0
          try clear hfz90_1
          try clear hfz90_2
          try clear hfz90_3
          try clear hfz90_4
          try clear hfz90_5
          try clear hfz91_0
          try clear hfz91_1
          try clear hfz91_2
          try clear hfz91_3
          try clear hfz91_4
          try clear hfz91_5
          try clear p2
          obtain ⟨x3_3, rfl, HA, HK3, BK198, HB⟩ := hrel
          cases gk with
          | zero => exact absurd HA.out (by simp [q00.l0])
          | succ k3 =>
           have H := HA.out
           clear HA
           simp only [q00.l0] at H
           by_cases c92 : x3_3 < (l0_2.length : Int)
           ·rw [if_pos c92] at H
            have c92b0 : decide (x3_3 < (l0_2.length : Int)) = true := decide_eq_true c92
            clear c92
            by_cases c93 : 0 ≤ x3_3
            ·rw [if_pos c93] at H
             have c93b0 : decide (0 ≤ x3_3) = true := decide_eq_true c93
             clear c93
             replace H := Option.bind_eq_some_iff.mp H
             obtain ⟨t202, A940, H⟩ := H
             replace H : (if t202 = true then (if (((q0v l0_2 x3_3).f1).size : Int) > 400 then (some 2) else (if x3_3 ≤ (l0_2.length : Int) then ((q0h.f k3 (l0_2.take (x3_3 : Int).toNat) ((q0v l0_2 x3_3).f0)).bind fun bt209 => (if bt209.2 = true then (some 3) else (q00.l0 k3 (wrap64 (x3_3 + 1)) a0_0 a0_1 l0_2 a0_3 a0_4 l0_5))) else (none))) else (some 3)) = some r := H
             have A94 := aS A940
             clear A940
             by_cases c95 : t202 = true
             ·subst c95
              have H1 : (if (((q0v l0_2 x3_3).f1).size : Int) > 400 then (some 2) else (if x3_3 ≤ (l0_2.length : Int) then ((q0h.f k3 (l0_2.take (x3_3 : Int).toNat) ((q0v l0_2 x3_3).f0)).bind fun bt209 => (if bt209.2 = true then (some 3) else (q00.l0 k3 (wrap64 (x3_3 + 1)) a0_0 a0_1 l0_2 a0_3 a0_4 l0_5))) else (none))) = some r := by rw [if_pos rfl] at H; exact H
              clear H
              have H := H1
              clear H1
              by_cases c96 : (((q0v l0_2 x3_3).f1).size : Int) > 400
              ·rw [if_pos c96] at H
               have c96b0 : decide (400 < (((q0v l0_2 x3_3).f1).size : Int)) = true := decide_eq_true c96
               have c96b1 : decide (400 < ((q0v l0_2 x3_3).f1).size) = true := decide_eq_true (by omega)
               clear c96
               obtain rfl := Option.some.inj H
               have hcz97_0 : wr.cell? ⟨gb198, 0, none⟩ = some (.int .i64 a0_0) := (q02 BK198.out 0).trans rfl
               have hcz97_1 : wr.cell? ⟨gb198, 1, none⟩ = some (.string a0_1) := (q02 BK198.out 1).trans rfl
               have hcz97_2 : wr.cell? ⟨gb198, 2, none⟩ = some (.slice A0_2 l0_2.length c0_2) := (q02 BK198.out 2).trans rfl
               have hcz97_3 : wr.cell? ⟨gb198, 3, none⟩ = some (.string a0_3) := (q02 BK198.out 3).trans rfl
               have hcz97_4 : wr.cell? ⟨gb198, 4, none⟩ = some (.int .i64 a0_4) := (q02 BK198.out 4).trans rfl
               have hcz97_5 : wr.cell? ⟨gb198, 5, none⟩ = some (.slice A0_5 l0_5.length c0_5) := (q02 BK198.out 5).trans rfl
               have hfz97_0 := q01 BK198.out 0
               have hfz97_1 := q01 BK198.out 1
               have hfz97_2 := q01 BK198.out 2
               have hfz97_3 := q01 BK198.out 3
               have hfz97_4 := q01 BK198.out 4
               have hfz97_5 := q01 BK198.out 5
               have p201 : 0 ≤ (x3_3 : Int) := od (by first | (with_reducible assumption) | assumption)
               have q201 : x3_3 < (l0_2.length : Int) := od (by first | (with_reducible assumption) | assumption)
               obtain ⟨ad201, e201, hx201_0, hx201_1⟩ := q1y HR0_2.out x3_3 p201 q201
               cases e201
               replace hx201_0 := (HB.out.cell (World.block_lt_of_cell? w _ hx201_0)).trans hx201_0
               replace hx201_1 := (HB.out.cell (World.block_lt_of_cell? w _ hx201_1)).trans hx201_1
               replace p201 := eq_true p201
               replace q201 := eq_true q201
               go_wp2_with (first | (go_at_call 120; (with_reducible refine (q04.calls k3 ((q0v l0_2 x3_3).f0) false true _ A94.out).mono ?_); rintro e w' ⟨rfl, ⟨nd, rfl⟩⟩; (try first | exact ⟨rfl, _, World.drewN_drewN _ _ _⟩ | exact ⟨rfl, _, Eq.trans (World.drewN_drewN _ _ _) (congrArg (World.drewN _) (Nat.add_assoc _ _ _))⟩); have p203 : 0 ≤ (x3_3 : Int) := od (by first | (with_reducible assumption) | assumption); have q203 : x3_3 < (l0_2.length : Int) := od (by first | (with_reducible assumption) | assumption); obtain ⟨ad203, e203, hx203_0, hx203_1⟩ := q1y HR0_2.out x3_3 p203 q203; obtain rfl : ad201 = ad203 := (by injection e203); replace hx203_0 := (HB.out.cell (World.block_lt_of_cell? w _ hx203_0)).trans hx203_0; replace hx203_1 := (HB.out.cell (World.block_lt_of_cell? w _ hx203_1)).trans hx203_1; replace p203 := eq_true p203; replace q203 := eq_true q203))
               repeat (go_quiet (first | (go_at_call 120; (with_reducible refine (q04.calls k3 ((q0v l0_2 x3_3).f0) false true _ A94.out).mono ?_); rintro e w' ⟨rfl, ⟨nd, rfl⟩⟩; (try first | exact ⟨rfl, _, World.drewN_drewN _ _ _⟩ | exact ⟨rfl, _, Eq.trans (World.drewN_drewN _ _ _) (congrArg (World.drewN _) (Nat.add_assoc _ _ _))⟩); have p203 : 0 ≤ (x3_3 : Int) := od (by first | (with_reducible assumption) | assumption); have q203 : x3_3 < (l0_2.length : Int) := od (by first | (with_reducible assumption) | assumption); obtain ⟨ad203, e203, hx203_0, hx203_1⟩ := q1y HR0_2.out x3_3 p203 q203; obtain rfl : ad201 = ad203 := (by injection e203); replace hx203_0 := (HB.out.cell (World.block_lt_of_cell? w _ hx203_0)).trans hx203_0; replace hx203_1 := (HB.out.cell (World.block_lt_of_cell? w _ hx203_1)).trans hx203_1; replace p203 := eq_true p203; replace q203 := eq_true q203)); try go_wp2_with (first | (go_at_call 120; (with_reducible refine (q04.calls k3 ((q0v l0_2 x3_3).f0) false true _ A94.out).mono ?_); rintro e w' ⟨rfl, ⟨nd, rfl⟩⟩; (try first | exact ⟨rfl, _, World.drewN_drewN _ _ _⟩ | exact ⟨rfl, _, Eq.trans (World.drewN_drewN _ _ _) (congrArg (World.drewN _) (Nat.add_assoc _ _ _))⟩); have p203 : 0 ≤ (x3_3 : Int) := od (by first | (with_reducible assumption) | assumption); have q203 : x3_3 < (l0_2.length : Int) := od (by first | (with_reducible assumption) | assumption); obtain ⟨ad203, e203, hx203_0, hx203_1⟩ := q1y HR0_2.out x3_3 p203 q203; obtain rfl : ad201 = ad203 := (by injection e203); replace hx203_0 := (HB.out.cell (World.block_lt_of_cell? w _ hx203_0)).trans hx203_0; replace hx203_1 := (HB.out.cell (World.block_lt_of_cell? w _ hx203_1)).trans hx203_1; replace p203 := eq_true p203; replace q203 := eq_true q203)))
               go_ret
               exact ⟨by first | rfl | (simp [q0b, q0a] <;> rfl) | (simp [*, q0b, q0a] <;> rfl), by repeat (first | (with_reducible first | exact HB.out | apply bA | apply bN | apply bD | refine bS ?_ GE198.out) | exact HB.out)⟩
              ·rw [if_neg c96] at H
               have c96b0 : decide (400 < (((q0v l0_2 x3_3).f1).size : Int)) = false := decide_eq_false c96
               have c96b1 : decide (400 < ((q0v l0_2 x3_3).f1).size) = false := decide_eq_false (by omega)
               clear c96
               have c98b0 := eq_true (od (by first | (with_reducible assumption) | assumption) : 0 ≤ x3_3)
               by_cases c99 : x3_3 ≤ (l0_2.length : Int)
               ·rw [if_pos c99] at H
                have c99b0 := eq_true c99
                have c99b1 : decide (x3_3 ≤ (l0_2.length : Int)) = true := decide_eq_true c99
                clear c99
                obtain ⟨y204, hy204⟩ : ∃ y_ : List (S122), y_ = (l0_2.take (x3_3 : Int).toNat) := ⟨_, rfl⟩
                replace H : ((q0h.f k3 y204 ((q0v l0_2 x3_3).f0)).bind fun bt209 => (if bt209.2 = true then (some 3) else (q00.l0 k3 (wrap64 (x3_3 + 1)) a0_0 a0_1 l0_2 a0_3 a0_4 l0_5))) = some r := by first | (rw [hy204]; with_reducible exact H) | (have H2_ := (Option.bind_some _ _).symm.trans H; rw [hy204]; with_reducible exact H2_) | (have H2_ := (Option.bind_some _ _).symm.trans H; with_reducible exact H2_) | with_reducible exact H | (rw [hy204]; exact H) | exact H
                have Ny204 := aS hy204
                clear hy204
                replace H := Option.bind_eq_some_iff.mp H
                obtain ⟨⟨t209, t210⟩, A1000, H⟩ := H
                replace H : (if t210 = true then (some 3) else (q00.l0 k3 (wrap64 (x3_3 + 1)) a0_0 a0_1 l0_2 a0_3 a0_4 l0_5)) = some r := H
                have A100 := aS A1000
                clear A1000
                by_cases c101 : t210 = true
                ·subst c101
                 have H1 : (some 3) = some r := by rw [if_pos rfl] at H; exact H
                 clear H
                 have H := H1
                 clear H1
                 obtain rfl := Option.some.inj H
                 have hcz102_0 : wr.cell? ⟨gb198, 0, none⟩ = some (.int .i64 a0_0) := (q02 BK198.out 0).trans rfl
                 have hcz102_1 : wr.cell? ⟨gb198, 1, none⟩ = some (.string a0_1) := (q02 BK198.out 1).trans rfl
                 have hcz102_2 : wr.cell? ⟨gb198, 2, none⟩ = some (.slice A0_2 l0_2.length c0_2) := (q02 BK198.out 2).trans rfl
                 have hcz102_3 : wr.cell? ⟨gb198, 3, none⟩ = some (.string a0_3) := (q02 BK198.out 3).trans rfl
                 have hcz102_4 : wr.cell? ⟨gb198, 4, none⟩ = some (.int .i64 a0_4) := (q02 BK198.out 4).trans rfl
                 have hcz102_5 : wr.cell? ⟨gb198, 5, none⟩ = some (.slice A0_5 l0_5.length c0_5) := (q02 BK198.out 5).trans rfl
                 have hfz102_0 := q01 BK198.out 0
                 have hfz102_1 := q01 BK198.out 1
                 have hfz102_2 := q01 BK198.out 2
                 have hfz102_3 := q01 BK198.out 3
                 have hfz102_4 := q01 BK198.out 4
                 have hfz102_5 := q01 BK198.out 5
                 have p201 : 0 ≤ (x3_3 : Int) := od (by first | (with_reducible assumption) | assumption)
                 have q201 : x3_3 < (l0_2.length : Int) := od (by first | (with_reducible assumption) | assumption)
                 obtain ⟨ad201, e201, hx201_0, hx201_1⟩ := q1y HR0_2.out x3_3 p201 q201
                 cases e201
                 replace hx201_0 := (HB.out.cell (World.block_lt_of_cell? w _ hx201_0)).trans hx201_0
                 replace hx201_1 := (HB.out.cell (World.block_lt_of_cell? w _ hx201_1)).trans hx201_1
                 replace p201 := eq_true p201
                 replace q201 := eq_true q201
                 go_wp2_with (first | (go_at_call 120; (with_reducible refine (q04.calls k3 ((q0v l0_2 x3_3).f0) false true _ A94.out).mono ?_); rintro e w' ⟨rfl, ⟨nd, rfl⟩⟩; (try first | exact ⟨rfl, _, World.drewN_drewN _ _ _⟩ | exact ⟨rfl, _, Eq.trans (World.drewN_drewN _ _ _) (congrArg (World.drewN _) (Nat.add_assoc _ _ _))⟩); have p203 : 0 ≤ (x3_3 : Int) := od (by first | (with_reducible assumption) | assumption); have q203 : x3_3 < (l0_2.length : Int) := od (by first | (with_reducible assumption) | assumption); obtain ⟨ad203, e203, hx203_0, hx203_1⟩ := q1y HR0_2.out x3_3 p203 q203; obtain rfl : ad201 = ad203 := (by injection e203); replace hx203_0 := (HB.out.cell (World.block_lt_of_cell? w _ hx203_0)).trans hx203_0; replace hx203_1 := (HB.out.cell (World.block_lt_of_cell? w _ hx203_1)).trans hx203_1; replace p203 := eq_true p203; replace q203 := eq_true q203; have q103 : (x3_3 : Int) ≤ ((l0_2.length : Int) : Int) := od (by first | (with_reducible assumption) | assumption); obtain ⟨i0103, hi0103, _, hsz103, _⟩ := info_parts info122; have hroom103 : l0_2.length ≤ c0_2 := HC0_2.out; have hC103 : Kd.C k122 _ (some ad201) l0_2.length l0_2 := HR0_2.out; have hcut103 := cut_to (P := Tryd.prog) 41 122 .i64 Tryd.underlying41 hi0103 (some ad201) l0_2.length c0_2 x3_3 (od (by first | (with_reducible assumption) | assumption)) q103 hroom103; have hr103 := Kd.C_take (m := (x3_3 : Int).toNat) hC103 (by omega); have hy103 : y204.length = (x3_3 : Int).toNat := (by rw [Ny204.out, List.length_take]; omega); rw [← Ny204.out] at hr103; rw [← hy103] at hcut103; have HR207 := aS hr103; have HC207 := aS (show y204.length ≤ c0_2 from by omega); clear hr103 hC103 hroom103 hi0103 hsz103; have KY103 := aS hy103; clear hy103; replace q103 := eq_true q103; have p208 : 0 ≤ (x3_3 : Int) := od (by first | (with_reducible assumption) | assumption); have q208 : x3_3 < (l0_2.length : Int) := od (by first | (with_reducible assumption) | assumption); obtain ⟨ad208, e208, hx208_0, hx208_1⟩ := q1y HR0_2.out x3_3 p208 q208; obtain rfl : ad201 = ad208 := (by injection e208); replace hx208_0 := (HB.out.cell (World.block_lt_of_cell? w _ hx208_0)).trans hx208_0; replace hx208_1 := (HB.out.cell (World.block_lt_of_cell? w _ hx208_1)).trans hx208_1; replace p208 := eq_true p208; replace q208 := eq_true q208) | (go_at_call 64; (with_reducible refine (q0h.calls k3 _ _ y204 ((q0v l0_2 x3_3).f0) t209 true _ ?side1 ?side2 A100.out).mono ?_); (case side1 => repeat (first | exact (Kd.C_below HR207.out (by repeat (first | (with_reducible first | exact HB.out | apply bA | apply bN | apply bD | refine bS ?_ GE198.out) | exact HB.out))) | (with_reducible refine cA ?_ _) | (with_reducible refine cN ?_ _) | (with_reducible refine cD ?_))); (case side2 => exact HC207.out); rintro e w' ⟨rfl, ⟨nd, rfl⟩⟩; (try first | exact ⟨rfl, _, World.drewN_drewN _ _ _⟩ | exact ⟨rfl, _, Eq.trans (World.drewN_drewN _ _ _) (congrArg (World.drewN _) (Nat.add_assoc _ _ _))⟩)))
                 repeat (go_quiet (first | (go_at_call 120; (with_reducible refine (q04.calls k3 ((q0v l0_2 x3_3).f0) false true _ A94.out).mono ?_); rintro e w' ⟨rfl, ⟨nd, rfl⟩⟩; (try first | exact ⟨rfl, _, World.drewN_drewN _ _ _⟩ | exact ⟨rfl, _, Eq.trans (World.drewN_drewN _ _ _) (congrArg (World.drewN _) (Nat.add_assoc _ _ _))⟩); have p203 : 0 ≤ (x3_3 : Int) := od (by first | (with_reducible assumption) | assumption); have q203 : x3_3 < (l0_2.length : Int) := od (by first | (with_reducible assumption) | assumption); obtain ⟨ad203, e203, hx203_0, hx203_1⟩ := q1y HR0_2.out x3_3 p203 q203; obtain rfl : ad201 = ad203 := (by injection e203); replace hx203_0 := (HB.out.cell (World.block_lt_of_cell? w _ hx203_0)).trans hx203_0; replace hx203_1 := (HB.out.cell (World.block_lt_of_cell? w _ hx203_1)).trans hx203_1; replace p203 := eq_true p203; replace q203 := eq_true q203; have q103 : (x3_3 : Int) ≤ ((l0_2.length : Int) : Int) := od (by first | (with_reducible assumption) | assumption); obtain ⟨i0103, hi0103, _, hsz103, _⟩ := info_parts info122; have hroom103 : l0_2.length ≤ c0_2 := HC0_2.out; have hC103 : Kd.C k122 _ (some ad201) l0_2.length l0_2 := HR0_2.out; have hcut103 := cut_to (P := Tryd.prog) 41 122 .i64 Tryd.underlying41 hi0103 (some ad201) l0_2.length c0_2 x3_3 (od (by first | (with_reducible assumption) | assumption)) q103 hroom103; have hr103 := Kd.C_take (m := (x3_3 : Int).toNat) hC103 (by omega); have hy103 : y204.length = (x3_3 : Int).toNat := (by rw [Ny204.out, List.length_take]; omega); rw [← Ny204.out] at hr103; rw [← hy103] at hcut103; have HR207 := aS hr103; have HC207 := aS (show y204.length ≤ c0_2 from by omega); clear hr103 hC103 hroom103 hi0103 hsz103; have KY103 := aS hy103; clear hy103; replace q103 := eq_true q103; have p208 : 0 ≤ (x3_3 : Int) := od (by first | (with_reducible assumption) | assumption); have q208 : x3_3 < (l0_2.length : Int) := od (by first | (with_reducible assumption) | assumption); obtain ⟨ad208, e208, hx208_0, hx208_1⟩ := q1y HR0_2.out x3_3 p208 q208; obtain rfl : ad201 = ad208 := (by injection e208); replace hx208_0 := (HB.out.cell (World.block_lt_of_cell? w _ hx208_0)).trans hx208_0; replace hx208_1 := (HB.out.cell (World.block_lt_of_cell? w _ hx208_1)).trans hx208_1; replace p208 := eq_true p208; replace q208 := eq_true q208) | (go_at_call 64; (with_reducible refine (q0h.calls k3 _ _ y204 ((q0v l0_2 x3_3).f0) t209 true _ ?side1 ?side2 A100.out).mono ?_); (case side1 => repeat (first | exact (Kd.C_below HR207.out (by repeat (first | (with_reducible first | exact HB.out | apply bA | apply bN | apply bD | refine bS ?_ GE198.out) | exact HB.out))) | (with_reducible refine cA ?_ _) | (with_reducible refine cN ?_ _) | (with_reducible refine cD ?_))); (case side2 => exact HC207.out); rintro e w' ⟨rfl, ⟨nd, rfl⟩⟩; (try first | exact ⟨rfl, _, World.drewN_drewN _ _ _⟩ | exact ⟨rfl, _, Eq.trans (World.drewN_drewN _ _ _) (congrArg (World.drewN _) (Nat.add_assoc _ _ _))⟩))); try go_wp2_with (first | (go_at_call 120; (with_reducible refine (q04.calls k3 ((q0v l0_2 x3_3).f0) false true _ A94.out).mono ?_); rintro e w' ⟨rfl, ⟨nd, rfl⟩⟩; (try first | exact ⟨rfl, _, World.drewN_drewN _ _ _⟩ | exact ⟨rfl, _, Eq.trans (World.drewN_drewN _ _ _) (congrArg (World.drewN _) (Nat.add_assoc _ _ _))⟩); have p203 : 0 ≤ (x3_3 : Int) := od (by first | (with_reducible assumption) | assumption); have q203 : x3_3 < (l0_2.length : Int) := od (by first | (with_reducible assumption) | assumption); obtain ⟨ad203, e203, hx203_0, hx203_1⟩ := q1y HR0_2.out x3_3 p203 q203; obtain rfl : ad201 = ad203 := (by injection e203); replace hx203_0 := (HB.out.cell (World.block_lt_of_cell? w _ hx203_0)).trans hx203_0; replace hx203_1 := (HB.out.cell (World.block_lt_of_cell? w _ hx203_1)).trans hx203_1; replace p203 := eq_true p203; replace q203 := eq_true q203; have q103 : (x3_3 : Int) ≤ ((l0_2.length : Int) : Int) := od (by first | (with_reducible assumption) | assumption); obtain ⟨i0103, hi0103, _, hsz103, _⟩ := info_parts info122; have hroom103 : l0_2.length ≤ c0_2 := HC0_2.out; have hC103 : Kd.C k122 _ (some ad201) l0_2.length l0_2 := HR0_2.out; have hcut103 := cut_to (P := Tryd.prog) 41 122 .i64 Tryd.underlying41 hi0103 (some ad201) l0_2.length c0_2 x3_3 (od (by first | (with_reducible assumption) | assumption)) q103 hroom103; have hr103 := Kd.C_take (m := (x3_3 : Int).toNat) hC103 (by omega); have hy103 : y204.length = (x3_3 : Int).toNat := (by rw [Ny204.out, List.length_take]; omega); rw [← Ny204.out] at hr103; rw [← hy103] at hcut103; have HR207 := aS hr103; have HC207 := aS (show y204.length ≤ c0_2 from by omega); clear hr103 hC103 hroom103 hi0103 hsz103; have KY103 := aS hy103; clear hy103; replace q103 := eq_true q103; have p208 : 0 ≤ (x3_3 : Int) := od (by first | (with_reducible assumption) | assumption); have q208 : x3_3 < (l0_2.length : Int) := od (by first | (with_reducible assumption) | assumption); obtain ⟨ad208, e208, hx208_0, hx208_1⟩ := q1y HR0_2.out x3_3 p208 q208; obtain rfl : ad201 = ad208 := (by injection e208); replace hx208_0 := (HB.out.cell (World.block_lt_of_cell? w _ hx208_0)).trans hx208_0; replace hx208_1 := (HB.out.cell (World.block_lt_of_cell? w _ hx208_1)).trans hx208_1; replace p208 := eq_true p208; replace q208 := eq_true q208) | (go_at_call 64; (with_reducible refine (q0h.calls k3 _ _ y204 ((q0v l0_2 x3_3).f0) t209 true _ ?side1 ?side2 A100.out).mono ?_); (case side1 => repeat (first | exact (Kd.C_below HR207.out (by repeat (first | (with_reducible first | exact HB.out | apply bA | apply bN | apply bD | refine bS ?_ GE198.out) | exact HB.out))) | (with_reducible refine cA ?_ _) | (with_reducible refine cN ?_ _) | (with_reducible refine cD ?_))); (case side2 => exact HC207.out); rintro e w' ⟨rfl, ⟨nd, rfl⟩⟩; (try first | exact ⟨rfl, _, World.drewN_drewN _ _ _⟩ | exact ⟨rfl, _, Eq.trans (World.drewN_drewN _ _ _) (congrArg (World.drewN _) (Nat.add_assoc _ _ _))⟩))))
                 go_ret
                 exact ⟨by first | rfl | (simp [q0b, q0a] <;> rfl) | (simp [*, q0b, q0a] <;> rfl), by repeat (first | (with_reducible first | exact HB.out | apply bA | apply bN | apply bD | refine bS ?_ GE198.out) | exact HB.out)⟩
                ·replace c101 := Bool.eq_false_iff.mpr c101
                 subst c101
                 have H1 : (q00.l0 k3 (wrap64 (x3_3 + 1)) a0_0 a0_1 l0_2 a0_3 a0_4 l0_5) = some r := by rw [if_neg (show ¬ (false = true) by decide)] at H; exact H
                 clear H
                 have H := H1
                 clear H1
                 have H' := aS H
                 clear H
                 have hcz104_0 : wr.cell? ⟨gb198, 0, none⟩ = some (.int .i64 a0_0) := (q02 BK198.out 0).trans rfl
                 have hcz104_1 : wr.cell? ⟨gb198, 1, none⟩ = some (.string a0_1) := (q02 BK198.out 1).trans rfl
                 have hcz104_2 : wr.cell? ⟨gb198, 2, none⟩ = some (.slice A0_2 l0_2.length c0_2) := (q02 BK198.out 2).trans rfl
                 have hcz104_3 : wr.cell? ⟨gb198, 3, none⟩ = some (.string a0_3) := (q02 BK198.out 3).trans rfl
                 have hcz104_4 : wr.cell? ⟨gb198, 4, none⟩ = some (.int .i64 a0_4) := (q02 BK198.out 4).trans rfl
                 have hcz104_5 : wr.cell? ⟨gb198, 5, none⟩ = some (.slice A0_5 l0_5.length c0_5) := (q02 BK198.out 5).trans rfl
                 have hfz104_0 := q01 BK198.out 0
                 have hfz104_1 := q01 BK198.out 1
                 have hfz104_2 := q01 BK198.out 2
                 have hfz104_3 := q01 BK198.out 3
                 have hfz104_4 := q01 BK198.out 4
                 have hfz104_5 := q01 BK198.out 5
                 have p201 : 0 ≤ (x3_3 : Int) := od (by first | (with_reducible assumption) | assumption)
                 have q201 : x3_3 < (l0_2.length : Int) := od (by first | (with_reducible assumption) | assumption)
                 obtain ⟨ad201, e201, hx201_0, hx201_1⟩ := q1y HR0_2.out x3_3 p201 q201
                 cases e201
                 replace hx201_0 := (HB.out.cell (World.block_lt_of_cell? w _ hx201_0)).trans hx201_0
                 replace hx201_1 := (HB.out.cell (World.block_lt_of_cell? w _ hx201_1)).trans hx201_1
                 replace p201 := eq_true p201
                 replace q201 := eq_true q201
                 go_wp2_with (first | (go_at_call 120; (with_reducible refine (q04.calls k3 ((q0v l0_2 x3_3).f0) false true _ A94.out).mono ?_); rintro e w' ⟨rfl, ⟨nd, rfl⟩⟩; (try first | exact ⟨rfl, _, World.drewN_drewN _ _ _⟩ | exact ⟨rfl, _, Eq.trans (World.drewN_drewN _ _ _) (congrArg (World.drewN _) (Nat.add_assoc _ _ _))⟩); have p203 : 0 ≤ (x3_3 : Int) := od (by first | (with_reducible assumption) | assumption); have q203 : x3_3 < (l0_2.length : Int) := od (by first | (with_reducible assumption) | assumption); obtain ⟨ad203, e203, hx203_0, hx203_1⟩ := q1y HR0_2.out x3_3 p203 q203; obtain rfl : ad201 = ad203 := (by injection e203); replace hx203_0 := (HB.out.cell (World.block_lt_of_cell? w _ hx203_0)).trans hx203_0; replace hx203_1 := (HB.out.cell (World.block_lt_of_cell? w _ hx203_1)).trans hx203_1; replace p203 := eq_true p203; replace q203 := eq_true q203; have q105 : (x3_3 : Int) ≤ ((l0_2.length : Int) : Int) := od (by first | (with_reducible assumption) | assumption); obtain ⟨i0105, hi0105, _, hsz105, _⟩ := info_parts info122; have hroom105 : l0_2.length ≤ c0_2 := HC0_2.out; have hC105 : Kd.C k122 _ (some ad201) l0_2.length l0_2 := HR0_2.out; have hcut105 := cut_to (P := Tryd.prog) 41 122 .i64 Tryd.underlying41 hi0105 (some ad201) l0_2.length c0_2 x3_3 (od (by first | (with_reducible assumption) | assumption)) q105 hroom105; have hr105 := Kd.C_take (m := (x3_3 : Int).toNat) hC105 (by omega); have hy105 : y204.length = (x3_3 : Int).toNat := (by rw [Ny204.out, List.length_take]; omega); rw [← Ny204.out] at hr105; rw [← hy105] at hcut105; have HR207 := aS hr105; have HC207 := aS (show y204.length ≤ c0_2 from by omega); clear hr105 hC105 hroom105 hi0105 hsz105; have KY105 := aS hy105; clear hy105; replace q105 := eq_true q105; have p208 : 0 ≤ (x3_3 : Int) := od (by first | (with_reducible assumption) | assumption); have q208 : x3_3 < (l0_2.length : Int) := od (by first | (with_reducible assumption) | assumption); obtain ⟨ad208, e208, hx208_0, hx208_1⟩ := q1y HR0_2.out x3_3 p208 q208; obtain rfl : ad201 = ad208 := (by injection e208); replace hx208_0 := (HB.out.cell (World.block_lt_of_cell? w _ hx208_0)).trans hx208_0; replace hx208_1 := (HB.out.cell (World.block_lt_of_cell? w _ hx208_1)).trans hx208_1; replace p208 := eq_true p208; replace q208 := eq_true q208) | (go_at_call 64; (with_reducible refine (q0h.calls k3 _ _ y204 ((q0v l0_2 x3_3).f0) t209 false _ ?side1 ?side2 A100.out).mono ?_); (case side1 => repeat (first | exact (Kd.C_below HR207.out (by repeat (first | (with_reducible first | exact HB.out | apply bA | apply bN | apply bD | refine bS ?_ GE198.out) | exact HB.out))) | (with_reducible refine cA ?_ _) | (with_reducible refine cN ?_ _) | (with_reducible refine cD ?_))); (case side2 => exact HC207.out); rintro e w' ⟨rfl, ⟨nd, rfl⟩⟩; (try first | exact ⟨rfl, _, World.drewN_drewN _ _ _⟩ | exact ⟨rfl, _, Eq.trans (World.drewN_drewN _ _ _) (congrArg (World.drewN _) (Nat.add_assoc _ _ _))⟩)))
                 repeat (go_quiet (first | (go_at_call 120; (with_reducible refine (q04.calls k3 ((q0v l0_2 x3_3).f0) false true _ A94.out).mono ?_); rintro e w' ⟨rfl, ⟨nd, rfl⟩⟩; (try first | exact ⟨rfl, _, World.drewN_drewN _ _ _⟩ | exact ⟨rfl, _, Eq.trans (World.drewN_drewN _ _ _) (congrArg (World.drewN _) (Nat.add_assoc _ _ _))⟩); have p203 : 0 ≤ (x3_3 : Int) := od (by first | (with_reducible assumption) | assumption); have q203 : x3_3 < (l0_2.length : Int) := od (by first | (with_reducible assumption) | assumption); obtain ⟨ad203, e203, hx203_0, hx203_1⟩ := q1y HR0_2.out x3_3 p203 q203; obtain rfl : ad201 = ad203 := (by injection e203); replace hx203_0 := (HB.out.cell (World.block_lt_of_cell? w _ hx203_0)).trans hx203_0; replace hx203_1 := (HB.out.cell (World.block_lt_of_cell? w _ hx203_1)).trans hx203_1; replace p203 := eq_true p203; replace q203 := eq_true q203; have q105 : (x3_3 : Int) ≤ ((l0_2.length : Int) : Int) := od (by first | (with_reducible assumption) | assumption); obtain ⟨i0105, hi0105, _, hsz105, _⟩ := info_parts info122; have hroom105 : l0_2.length ≤ c0_2 := HC0_2.out; have hC105 : Kd.C k122 _ (some ad201) l0_2.length l0_2 := HR0_2.out; have hcut105 := cut_to (P := Tryd.prog) 41 122 .i64 Tryd.underlying41 hi0105 (some ad201) l0_2.length c0_2 x3_3 (od (by first | (with_reducible assumption) | assumption)) q105 hroom105; have hr105 := Kd.C_take (m := (x3_3 : Int).toNat) hC105 (by omega); have hy105 : y204.length = (x3_3 : Int).toNat := (by rw [Ny204.out, List.length_take]; omega); rw [← Ny204.out] at hr105; rw [← hy105] at hcut105; have HR207 := aS hr105; have HC207 := aS (show y204.length ≤ c0_2 from by omega); clear hr105 hC105 hroom105 hi0105 hsz105; have KY105 := aS hy105; clear hy105; replace q105 := eq_true q105; have p208 : 0 ≤ (x3_3 : Int) := od (by first | (with_reducible assumption) | assumption); have q208 : x3_3 < (l0_2.length : Int) := od (by first | (with_reducible assumption) | assumption); obtain ⟨ad208, e208, hx208_0, hx208_1⟩ := q1y HR0_2.out x3_3 p208 q208; obtain rfl : ad201 = ad208 := (by injection e208); replace hx208_0 := (HB.out.cell (World.block_lt_of_cell? w _ hx208_0)).trans hx208_0; replace hx208_1 := (HB.out.cell (World.block_lt_of_cell? w _ hx208_1)).trans hx208_1; replace p208 := eq_true p208; replace q208 := eq_true q208) | (go_at_call 64; (with_reducible refine (q0h.calls k3 _ _ y204 ((q0v l0_2 x3_3).f0) t209 false _ ?side1 ?side2 A100.out).mono ?_); (case side1 => repeat (first | exact (Kd.C_below HR207.out (by repeat (first | (with_reducible first | exact HB.out | apply bA | apply bN | apply bD | refine bS ?_ GE198.out) | exact HB.out))) | (with_reducible refine cA ?_ _) | (with_reducible refine cN ?_ _) | (with_reducible refine cD ?_))); (case side2 => exact HC207.out); rintro e w' ⟨rfl, ⟨nd, rfl⟩⟩; (try first | exact ⟨rfl, _, World.drewN_drewN _ _ _⟩ | exact ⟨rfl, _, Eq.trans (World.drewN_drewN _ _ _) (congrArg (World.drewN _) (Nat.add_assoc _ _ _))⟩))); try go_wp2_with (first | (go_at_call 120; (with_reducible refine (q04.calls k3 ((q0v l0_2 x3_3).f0) false true _ A94.out).mono ?_); rintro e w' ⟨rfl, ⟨nd, rfl⟩⟩; (try first | exact ⟨rfl, _, World.drewN_drewN _ _ _⟩ | exact ⟨rfl, _, Eq.trans (World.drewN_drewN _ _ _) (congrArg (World.drewN _) (Nat.add_assoc _ _ _))⟩); have p203 : 0 ≤ (x3_3 : Int) := od (by first | (with_reducible assumption) | assumption); have q203 : x3_3 < (l0_2.length : Int) := od (by first | (with_reducible assumption) | assumption); obtain ⟨ad203, e203, hx203_0, hx203_1⟩ := q1y HR0_2.out x3_3 p203 q203; obtain rfl : ad201 = ad203 := (by injection e203); replace hx203_0 := (HB.out.cell (World.block_lt_of_cell? w _ hx203_0)).trans hx203_0; replace hx203_1 := (HB.out.cell (World.block_lt_of_cell? w _ hx203_1)).trans hx203_1; replace p203 := eq_true p203; replace q203 := eq_true q203; have q105 : (x3_3 : Int) ≤ ((l0_2.length : Int) : Int) := od (by first | (with_reducible assumption) | assumption); obtain ⟨i0105, hi0105, _, hsz105, _⟩ := info_parts info122; have hroom105 : l0_2.length ≤ c0_2 := HC0_2.out; have hC105 : Kd.C k122 _ (some ad201) l0_2.length l0_2 := HR0_2.out; have hcut105 := cut_to (P := Tryd.prog) 41 122 .i64 Tryd.underlying41 hi0105 (some ad201) l0_2.length c0_2 x3_3 (od (by first | (with_reducible assumption) | assumption)) q105 hroom105; have hr105 := Kd.C_take (m := (x3_3 : Int).toNat) hC105 (by omega); have hy105 : y204.length = (x3_3 : Int).toNat := (by rw [Ny204.out, List.length_take]; omega); rw [← Ny204.out] at hr105; rw [← hy105] at hcut105; have HR207 := aS hr105; have HC207 := aS (show y204.length ≤ c0_2 from by omega); clear hr105 hC105 hroom105 hi0105 hsz105; have KY105 := aS hy105; clear hy105; replace q105 := eq_true q105; have p208 : 0 ≤ (x3_3 : Int) := od (by first | (with_reducible assumption) | assumption); have q208 : x3_3 < (l0_2.length : Int) := od (by first | (with_reducible assumption) | assumption); obtain ⟨ad208, e208, hx208_0, hx208_1⟩ := q1y HR0_2.out x3_3 p208 q208; obtain rfl : ad201 = ad208 := (by injection e208); replace hx208_0 := (HB.out.cell (World.block_lt_of_cell? w _ hx208_0)).trans hx208_0; replace hx208_1 := (HB.out.cell (World.block_lt_of_cell? w _ hx208_1)).trans hx208_1; replace p208 := eq_true p208; replace q208 := eq_true q208) | (go_at_call 64; (with_reducible refine (q0h.calls k3 _ _ y204 ((q0v l0_2 x3_3).f0) t209 false _ ?side1 ?side2 A100.out).mono ?_); (case side1 => repeat (first | exact (Kd.C_below HR207.out (by repeat (first | (with_reducible first | exact HB.out | apply bA | apply bN | apply bD | refine bS ?_ GE198.out) | exact HB.out))) | (with_reducible refine cA ?_ _) | (with_reducible refine cN ?_ _) | (with_reducible refine cD ?_))); (case side2 => exact HC207.out); rintro e w' ⟨rfl, ⟨nd, rfl⟩⟩; (try first | exact ⟨rfl, _, World.drewN_drewN _ _ _⟩ | exact ⟨rfl, _, Eq.trans (World.drewN_drewN _ _ _) (congrArg (World.drewN _) (Nat.add_assoc _ _ _))⟩))))
                 go_roundg k3
                 case measure => have := HJ3.out; have := HJ82.out; have := HK3.out; omega
                 case rel => exact ⟨(wrap64 (x3_3 + 1)), (by first | rfl | (simp; done) | simp [*]), H', ⟨by have := HJ3.out; have := HJ82.out; have := HK3.out; omega⟩, ⟨by (with_reducible repeat (first | refine kN ?_ _ | refine kD ?_ | refine kA ?_ _)); exact BK198.out⟩, ⟨by repeat (first | (with_reducible first | exact HB.out | apply bA | apply bN | apply bD | refine bS ?_ GE198.out) | exact HB.out)⟩⟩
               ·rw [if_neg c99] at H
                exact absurd H (by simp)
             ·replace c95 := Bool.eq_false_iff.mpr c95
              subst c95
              have H1 : (some 3) = some r := by rw [if_neg (show ¬ (false = true) by decide)] at H; exact H
              clear H
              have H := H1
              clear H1
              obtain rfl := Option.some.inj H
              have hcz106_0 : wr.cell? ⟨gb198, 0, none⟩ = some (.int .i64 a0_0) := (q02 BK198.out 0).trans rfl
              have hcz106_1 : wr.cell? ⟨gb198, 1, none⟩ = some (.string a0_1) := (q02 BK198.out 1).trans rfl
              have hcz106_2 : wr.cell? ⟨gb198, 2, none⟩ = some (.slice A0_2 l0_2.length c0_2) := (q02 BK198.out 2).trans rfl
              have hcz106_3 : wr.cell? ⟨gb198, 3, none⟩ = some (.string a0_3) := (q02 BK198.out 3).trans rfl
              have hcz106_4 : wr.cell? ⟨gb198, 4, none⟩ = some (.int .i64 a0_4) := (q02 BK198.out 4).trans rfl
              have hcz106_5 : wr.cell? ⟨gb198, 5, none⟩ = some (.slice A0_5 l0_5.length c0_5) := (q02 BK198.out 5).trans rfl
              have hfz106_0 := q01 BK198.out 0
              have hfz106_1 := q01 BK198.out 1
              have hfz106_2 := q01 BK198.out 2
              have hfz106_3 := q01 BK198.out 3
              have hfz106_4 := q01 BK198.out 4
              have hfz106_5 := q01 BK198.out 5
              have p201 : 0 ≤ (x3_3 : Int) := od (by first | (with_reducible assumption) | assumption)
              have q201 : x3_3 < (l0_2.length : Int) := od (by first | (with_reducible assumption) | assumption)
              obtain ⟨ad201, e201, hx201_0, hx201_1⟩ := q1y HR0_2.out x3_3 p201 q201
              cases e201
              replace hx201_0 := (HB.out.cell (World.block_lt_of_cell? w _ hx201_0)).trans hx201_0
              replace hx201_1 := (HB.out.cell (World.block_lt_of_cell? w _ hx201_1)).trans hx201_1
              replace p201 := eq_true p201
              replace q201 := eq_true q201
              go_wp2_with (first | (go_at_call 120; (with_reducible refine (q04.calls k3 ((q0v l0_2 x3_3).f0) false false _ A94.out).mono ?_); rintro e w' ⟨rfl, ⟨nd, rfl⟩⟩; (try first | exact ⟨rfl, _, World.drewN_drewN _ _ _⟩ | exact ⟨rfl, _, Eq.trans (World.drewN_drewN _ _ _) (congrArg (World.drewN _) (Nat.add_assoc _ _ _))⟩)))
              repeat (go_quiet (first | (go_at_call 120; (with_reducible refine (q04.calls k3 ((q0v l0_2 x3_3).f0) false false _ A94.out).mono ?_); rintro e w' ⟨rfl, ⟨nd, rfl⟩⟩; (try first | exact ⟨rfl, _, World.drewN_drewN _ _ _⟩ | exact ⟨rfl, _, Eq.trans (World.drewN_drewN _ _ _) (congrArg (World.drewN _) (Nat.add_assoc _ _ _))⟩))); try go_wp2_with (first | (go_at_call 120; (with_reducible refine (q04.calls k3 ((q0v l0_2 x3_3).f0) false false _ A94.out).mono ?_); rintro e w' ⟨rfl, ⟨nd, rfl⟩⟩; (try first | exact ⟨rfl, _, World.drewN_drewN _ _ _⟩ | exact ⟨rfl, _, Eq.trans (World.drewN_drewN _ _ _) (congrArg (World.drewN _) (Nat.add_assoc _ _ _))⟩))))
              go_ret
              exact ⟨by first | rfl | (simp [q0b, q0a] <;> rfl) | (simp [*, q0b, q0a] <;> rfl), by repeat (first | (with_reducible first | exact HB.out | apply bA | apply bN | apply bD | refine bS ?_ GE198.out) | exact HB.out)⟩
            ·rw [if_neg c93] at H
             exact absurd H (by simp)
           ·rw [if_neg c92] at H
            have c92b0 : decide (x3_3 < (l0_2.length : Int)) = false := decide_eq_false c92
            clear c92
            by_cases c107 : (a0_3.size : Int) > 400
            ·rw [if_pos c107] at H
             have c107b0 : decide (400 < (a0_3.size : Int)) = true := decide_eq_true c107
             have c107b1 : decide (400 < a0_3.size) = true := decide_eq_true (by omega)
             clear c107
             obtain rfl := Option.some.inj H
             have hcz108_0 : wr.cell? ⟨gb198, 0, none⟩ = some (.int .i64 a0_0) := (q02 BK198.out 0).trans rfl
             have hcz108_1 : wr.cell? ⟨gb198, 1, none⟩ = some (.string a0_1) := (q02 BK198.out 1).trans rfl
             have hcz108_2 : wr.cell? ⟨gb198, 2, none⟩ = some (.slice A0_2 l0_2.length c0_2) := (q02 BK198.out 2).trans rfl
             have hcz108_3 : wr.cell? ⟨gb198, 3, none⟩ = some (.string a0_3) := (q02 BK198.out 3).trans rfl
             have hcz108_4 : wr.cell? ⟨gb198, 4, none⟩ = some (.int .i64 a0_4) := (q02 BK198.out 4).trans rfl
             have hcz108_5 : wr.cell? ⟨gb198, 5, none⟩ = some (.slice A0_5 l0_5.length c0_5) := (q02 BK198.out 5).trans rfl
             have hfz108_0 := q01 BK198.out 0
             have hfz108_1 := q01 BK198.out 1
             have hfz108_2 := q01 BK198.out 2
             have hfz108_3 := q01 BK198.out 3
             have hfz108_4 := q01 BK198.out 4
             have hfz108_5 := q01 BK198.out 5
             go_wp2
             repeat (go_quiet (fail); try go_wp2)
             go_ret
             exact ⟨by first | rfl | (simp [q0b, q0a] <;> rfl) | (simp [*, q0b, q0a] <;> rfl), by repeat (first | (with_reducible first | exact HB.out | apply bA | apply bN | apply bD | refine bS ?_ GE198.out) | exact HB.out)⟩
            ·rw [if_neg c107] at H
             have c107b0 : decide (400 < (a0_3.size : Int)) = false := decide_eq_false c107
             have c107b1 : decide (400 < a0_3.size) = false := decide_eq_false (by omega)
             clear c107
             by_cases c109 : (a0_1.size : Int) > 400
             ·rw [if_pos c109] at H
              have c109b0 : decide (400 < (a0_1.size : Int)) = true := decide_eq_true c109
              have c109b1 : decide (400 < a0_1.size) = true := decide_eq_true (by omega)
              clear c109
              obtain rfl := Option.some.inj H
              have hcz110_0 : wr.cell? ⟨gb198, 0, none⟩ = some (.int .i64 a0_0) := (q02 BK198.out 0).trans rfl
              have hcz110_1 : wr.cell? ⟨gb198, 1, none⟩ = some (.string a0_1) := (q02 BK198.out 1).trans rfl
              have hcz110_2 : wr.cell? ⟨gb198, 2, none⟩ = some (.slice A0_2 l0_2.length c0_2) := (q02 BK198.out 2).trans rfl
              have hcz110_3 : wr.cell? ⟨gb198, 3, none⟩ = some (.string a0_3) := (q02 BK198.out 3).trans rfl
              have hcz110_4 : wr.cell? ⟨gb198, 4, none⟩ = some (.int .i64 a0_4) := (q02 BK198.out 4).trans rfl
              have hcz110_5 : wr.cell? ⟨gb198, 5, none⟩ = some (.slice A0_5 l0_5.length c0_5) := (q02 BK198.out 5).trans rfl
              have hfz110_0 := q01 BK198.out 0
              have hfz110_1 := q01 BK198.out 1
              have hfz110_2 := q01 BK198.out 2
              have hfz110_3 := q01 BK198.out 3
              have hfz110_4 := q01 BK198.out 4
              have hfz110_5 := q01 BK198.out 5
              go_wp2
              repeat (go_quiet (fail); try go_wp2)
              go_ret
              exact ⟨by first | rfl | (simp [q0b, q0a] <;> rfl) | (simp [*, q0b, q0a] <;> rfl), by repeat (first | (with_reducible first | exact HB.out | apply bA | apply bN | apply bD | refine bS ?_ GE198.out) | exact HB.out)⟩
             ·rw [if_neg c109] at H
              have c109b0 : decide (400 < (a0_1.size : Int)) = false := decide_eq_false c109
              have c109b1 : decide (400 < a0_1.size) = false := decide_eq_false (by omega)
              clear c109
              obtain rfl := Option.some.inj H
              have hcz111_0 : wr.cell? ⟨gb198, 0, none⟩ = some (.int .i64 a0_0) := (q02 BK198.out 0).trans rfl
              have hcz111_1 : wr.cell? ⟨gb198, 1, none⟩ = some (.string a0_1) := (q02 BK198.out 1).trans rfl
              have hcz111_2 : wr.cell? ⟨gb198, 2, none⟩ = some (.slice A0_2 l0_2.length c0_2) := (q02 BK198.out 2).trans rfl
              have hcz111_3 : wr.cell? ⟨gb198, 3, none⟩ = some (.string a0_3) := (q02 BK198.out 3).trans rfl
              have hcz111_4 : wr.cell? ⟨gb198, 4, none⟩ = some (.int .i64 a0_4) := (q02 BK198.out 4).trans rfl
              have hcz111_5 : wr.cell? ⟨gb198, 5, none⟩ = some (.slice A0_5 l0_5.length c0_5) := (q02 BK198.out 5).trans rfl
              have hfz111_0 := q01 BK198.out 0
              have hfz111_1 := q01 BK198.out 1
              have hfz111_2 := q01 BK198.out 2
              have hfz111_3 := q01 BK198.out 3
              have hfz111_4 := q01 BK198.out 4
              have hfz111_5 := q01 BK198.out 5
              go_wp2
              repeat (go_quiet (fail); try go_wp2)
              go_ret
              exact ⟨by first | rfl | (simp [q0b, q0a] <;> rfl) | (simp [*, q0b, q0a] <;> rfl), by repeat (first | (with_reducible first | exact HB.out | apply bA | apply bN | apply bD | refine bS ?_ GE198.out) | exact HB.out)⟩
 ·replace c3 := Bool.eq_false_iff.mpr c3
  subst c3
  have H1 : (some 7) = some r := by rw [if_neg (show ¬ (false = true) by decide)] at H; exact H
  clear H
  have H := H1
  clear H1
  obtain rfl := Option.some.inj H
  go_enter Tryd.func72, Tryd.ntmps72
  go_wp2_with (first | ((with_reducible refine q15 (N := 1) rfl ?_); (try (refine q1t (by rfl) ?_; dsimp only)); refine q0y ?hg (N := 1) ?hd (cs := #[.int .i64 a0_0, .string a0_1, .slice A0_2 l0_2.length c0_2, .string a0_3, .int .i64 a0_4, .slice A0_5 l0_5.length c0_5]) (t := 43) ?hr ?_; (case hd => rfl); (case hg => rfl); (case hr => first | (go_simp; done) | (go_simp; rfl)); intro gb198 hg w112 hbox hb; have n0_ := aS (q09 (by repeat (first | (with_reducible first | exact HB.out | apply bA | apply bN | apply bD) | exact HB.out)) hb); have n1_ := aS (hbox); have n2_ := aS ((by rw [hg]; exact (q0k (by repeat (first | (with_reducible first | exact HB.out | apply bA | apply bN | apply bD) | exact HB.out))) : w.heap.size ≤ gb198)); have n3_ := aS ((by rw [hg]; exact (q0k (by repeat (first | (with_reducible first | exact HB.out | apply bA | apply bN | apply bD) | exact HB.out))) : w.heap.size ≤ gb198)); clear HB; have HB := n0_; have BK198 := n1_; have GW198 := n2_; have GE198 := n3_; clear n0_ n1_ n2_ n3_; clear hb hbox hg; have hcz113_0 : w112.cell? ⟨gb198, 0, none⟩ = some (.int .i64 a0_0) := (q02 BK198.out 0).trans rfl; have hcz113_1 : w112.cell? ⟨gb198, 1, none⟩ = some (.string a0_1) := (q02 BK198.out 1).trans rfl; have hcz113_2 : w112.cell? ⟨gb198, 2, none⟩ = some (.slice A0_2 l0_2.length c0_2) := (q02 BK198.out 2).trans rfl; have hcz113_3 : w112.cell? ⟨gb198, 3, none⟩ = some (.string a0_3) := (q02 BK198.out 3).trans rfl; have hcz113_4 : w112.cell? ⟨gb198, 4, none⟩ = some (.int .i64 a0_4) := (q02 BK198.out 4).trans rfl; have hcz113_5 : w112.cell? ⟨gb198, 5, none⟩ = some (.slice A0_5 l0_5.length c0_5) := (q02 BK198.out 5).trans rfl; have hfz113_0 := q01 BK198.out 0; have hfz113_1 := q01 BK198.out 1; have hfz113_2 := q01 BK198.out 2; have hfz113_3 := q01 BK198.out 3; have hfz113_4 := q01 BK198.out 4; have hfz113_5 := q01 BK198.out 5) | (go_at_call 73; (with_reducible refine (q0p.calls a0_0 1 5 false _ A2.out).mono ?_); rintro e w' ⟨rfl, ⟨nd, rfl⟩⟩; (try first | exact ⟨rfl, _, World.drewN_drewN _ _ _⟩ | exact ⟨rfl, _, Eq.trans (World.drewN_drewN _ _ _) (congrArg (World.drewN _) (Nat.add_assoc _ _ _))⟩)))
  repeat (go_quiet (first | ((with_reducible refine q15 (N := 1) rfl ?_); (try (refine q1t (by rfl) ?_; dsimp only)); refine q0y ?hg (N := 1) ?hd (cs := #[.int .i64 a0_0, .string a0_1, .slice A0_2 l0_2.length c0_2, .string a0_3, .int .i64 a0_4, .slice A0_5 l0_5.length c0_5]) (t := 43) ?hr ?_; (case hd => rfl); (case hg => rfl); (case hr => first | (go_simp; done) | (go_simp; rfl)); intro gb198 hg w112 hbox hb; have n0_ := aS (q09 (by repeat (first | (with_reducible first | exact HB.out | apply bA | apply bN | apply bD) | exact HB.out)) hb); have n1_ := aS (hbox); have n2_ := aS ((by rw [hg]; exact (q0k (by repeat (first | (with_reducible first | exact HB.out | apply bA | apply bN | apply bD) | exact HB.out))) : w.heap.size ≤ gb198)); have n3_ := aS ((by rw [hg]; exact (q0k (by repeat (first | (with_reducible first | exact HB.out | apply bA | apply bN | apply bD) | exact HB.out))) : w.heap.size ≤ gb198)); clear HB; have HB := n0_; have BK198 := n1_; have GW198 := n2_; have GE198 := n3_; clear n0_ n1_ n2_ n3_; clear hb hbox hg; have hcz113_0 : w112.cell? ⟨gb198, 0, none⟩ = some (.int .i64 a0_0) := (q02 BK198.out 0).trans rfl; have hcz113_1 : w112.cell? ⟨gb198, 1, none⟩ = some (.string a0_1) := (q02 BK198.out 1).trans rfl; have hcz113_2 : w112.cell? ⟨gb198, 2, none⟩ = some (.slice A0_2 l0_2.length c0_2) := (q02 BK198.out 2).trans rfl; have hcz113_3 : w112.cell? ⟨gb198, 3, none⟩ = some (.string a0_3) := (q02 BK198.out 3).trans rfl; have hcz113_4 : w112.cell? ⟨gb198, 4, none⟩ = some (.int .i64 a0_4) := (q02 BK198.out 4).trans rfl; have hcz113_5 : w112.cell? ⟨gb198, 5, none⟩ = some (.slice A0_5 l0_5.length c0_5) := (q02 BK198.out 5).trans rfl; have hfz113_0 := q01 BK198.out 0; have hfz113_1 := q01 BK198.out 1; have hfz113_2 := q01 BK198.out 2; have hfz113_3 := q01 BK198.out 3; have hfz113_4 := q01 BK198.out 4; have hfz113_5 := q01 BK198.out 5) | (go_at_call 73; (with_reducible refine (q0p.calls a0_0 1 5 false _ A2.out).mono ?_); rintro e w' ⟨rfl, ⟨nd, rfl⟩⟩; (try first | exact ⟨rfl, _, World.drewN_drewN _ _ _⟩ | exact ⟨rfl, _, Eq.trans (World.drewN_drewN _ _ _) (congrArg (World.drewN _) (Nat.add_assoc _ _ _))⟩))); try go_wp2_with (first | ((with_reducible refine q15 (N := 1) rfl ?_); (try (refine q1t (by rfl) ?_; dsimp only)); refine q0y ?hg (N := 1) ?hd (cs := #[.int .i64 a0_0, .string a0_1, .slice A0_2 l0_2.length c0_2, .string a0_3, .int .i64 a0_4, .slice A0_5 l0_5.length c0_5]) (t := 43) ?hr ?_; (case hd => rfl); (case hg => rfl); (case hr => first | (go_simp; done) | (go_simp; rfl)); intro gb198 hg w112 hbox hb; have n0_ := aS (q09 (by repeat (first | (with_reducible first | exact HB.out | apply bA | apply bN | apply bD) | exact HB.out)) hb); have n1_ := aS (hbox); have n2_ := aS ((by rw [hg]; exact (q0k (by repeat (first | (with_reducible first | exact HB.out | apply bA | apply bN | apply bD) | exact HB.out))) : w.heap.size ≤ gb198)); have n3_ := aS ((by rw [hg]; exact (q0k (by repeat (first | (with_reducible first | exact HB.out | apply bA | apply bN | apply bD) | exact HB.out))) : w.heap.size ≤ gb198)); clear HB; have HB := n0_; have BK198 := n1_; have GW198 := n2_; have GE198 := n3_; clear n0_ n1_ n2_ n3_; clear hb hbox hg; have hcz113_0 : w112.cell? ⟨gb198, 0, none⟩ = some (.int .i64 a0_0) := (q02 BK198.out 0).trans rfl; have hcz113_1 : w112.cell? ⟨gb198, 1, none⟩ = some (.string a0_1) := (q02 BK198.out 1).trans rfl; have hcz113_2 : w112.cell? ⟨gb198, 2, none⟩ = some (.slice A0_2 l0_2.length c0_2) := (q02 BK198.out 2).trans rfl; have hcz113_3 : w112.cell? ⟨gb198, 3, none⟩ = some (.string a0_3) := (q02 BK198.out 3).trans rfl; have hcz113_4 : w112.cell? ⟨gb198, 4, none⟩ = some (.int .i64 a0_4) := (q02 BK198.out 4).trans rfl; have hcz113_5 : w112.cell? ⟨gb198, 5, none⟩ = some (.slice A0_5 l0_5.length c0_5) := (q02 BK198.out 5).trans rfl; have hfz113_0 := q01 BK198.out 0; have hfz113_1 := q01 BK198.out 1; have hfz113_2 := q01 BK198.out 2; have hfz113_3 := q01 BK198.out 3; have hfz113_4 := q01 BK198.out 4; have hfz113_5 := q01 BK198.out 5) | (go_at_call 73; (with_reducible refine (q0p.calls a0_0 1 5 false _ A2.out).mono ?_); rintro e w' ⟨rfl, ⟨nd, rfl⟩⟩; (try first | exact ⟨rfl, _, World.drewN_drewN _ _ _⟩ | exact ⟨rfl, _, Eq.trans (World.drewN_drewN _ _ _) (congrArg (World.drewN _) (Nat.add_assoc _ _ _))⟩))))
  go_ret
  exact ⟨by first | rfl | (simp [q0b, q0a] <;> rfl) | (simp [*, q0b, q0a] <;> rfl), by repeat (first | (with_reducible first | exact HB.out | apply bA | apply bN | apply bD | refine bS ?_ GE198.out) | exact HB.out)⟩
end Go.Proofs.YthjnallbbhnndaaDoor.XWk
namespace Go.Proofs.YthjnallbbhnndaaDoor.XWk
open Go.Proofs.YthjnallbbhnndaaDoor.Short Go.RowKit Go.Proofs.YthjnallbbhnndaaDoorW.PrintWords Go.Proofs.YthjnallbbhnndaaDoorW.PrintLast Go.Proofs.YthjnallbbhnndaaDoorW.PrintMore
attribute [local go_sem] q27 q25 q2l q2k q1w q1v q26 q24   -- for this text's walks alone
set_option linter.unusedVariables false
set_option linter.unusedSimpArgs false
def q08.l0 : Nat → List Int → Int → Int → Option (Int)
 | 0, _, _, _ => none
 | k + 1, x0, x1, x5 => if x5 < (x0.length : Int) then (if 0 ≤ x5 then (if (rd x0 x5) = x1 then (some x5) else (q08.l0 k x0 x1 (wrap64 (x5 + 1)))) else (none)) else (some (-1))
def q08.f (k : Nat) (l0 : List Int) (a1 : Int) : Option (Int) := q08.l0 k l0 a1 0
theorem q08.mono_l : ∀ k, (∀ y0 y1 y2, LeO (q08.l0 k y0 y1 y2) (q08.l0 (k + 1) y0 y1 y2))
 | 0 => fun _ _ _ r h => by simp [q08.l0] at h
 | k + 1 => by
  have ih0 := q08.mono_l k
  ·intro y0 y1 y2
   unfold q08.l0
   repeat' first
   | (with_reducible exact ih0 _ _ _)
   | (with_reducible exact LeO.refl _)
   | (with_reducible exact LeO.none _)
   | (with_reducible refine LeO.ite ?_ ?_)
   | (with_reducible refine LeO.bind ?_ (fun _ => ?_))
   | exact ih0 _ _ _
   | exact LeO.none _
   | refine LeO.ite ?_ ?_
   | refine LeO.bind ?_ (fun _ => ?_)
theorem q08.mono : ∀ a0 a1 k, LeO (q08.f k a0 a1) (q08.f (k + 1) a0 a1) := by
 intro a0 a1 k
 have ih0 := q08.mono_l k
 unfold q08.f
 repeat' first
  | (with_reducible exact ih0 _ _ _)
  | (with_reducible exact LeO.refl _)
  | (with_reducible exact LeO.none _)
  | (with_reducible refine LeO.ite ?_ ?_)
  | (with_reducible refine LeO.bind ?_ (fun _ => ?_))
  | exact ih0 _ _ _
  | exact LeO.none _
  | refine LeO.ite ?_ ?_
  | refine LeO.bind ?_ (fun _ => ?_)
set_option maxHeartbeats 8000000 in
set_option maxRecDepth 100000 in
theorem q08.calls (k : Nat) (A0 : Option Addr) (c0 : Nat) (l0 : List Int) (a1 : Int) (r : Int) (w : World) (hr0 : Kd.C (Kd.int .i64) w A0 l0.length l0) (hc0 : l0.length ≤ c0) (h : q08.f k l0 a1 = some r) :
 Calls Tryd.prog 74 #[.slice A0 l0.length c0, .int .i64 a1] w fun e w' => e = .returned (.int .i64 r) ∧ Drawn0 w w' := by
 have HR0 := aS hr0
 have HC0 := aS hc0
 clear hr0 hc0
 have H : (q08.l0 k l0 a1 0) = some r := h
 clear h
 have H' := aS H
 clear H
 go_enter Tryd.func74, Tryd.ntmps74
 go_wp2
 go_loopg [5] k (fun kq v5 w' => ∃ (x5_1 : Int), v5 = .int .i64 x5_1 ∧ Aside0 (q08.l0 kq l0 a1 x5_1 = some r) ∧ Aside0 (kq ≤ k) ∧ Drawn0 w w')
 case atStart => exact ⟨(0), (by first | rfl | (simp; done) | simp [*]), H', ⟨Nat.le_refl _⟩, by repeat (first | exact Drawn0.refl _ | apply Drawn0.step)⟩
 case round =>
  clear H'
  try clear p2
  obtain ⟨x5_1, rfl, HA, HK1, ⟨m1, rfl⟩⟩ := hrel
  cases gk with
  | zero => exact absurd HA.out (by simp [q08.l0])
  | succ k1 =>
   have H := HA.out
   clear HA
   simp only [q08.l0] at H
   by_cases c3 : x5_1 < (l0.length : Int)
   ·rw [if_pos c3] at H
    have c3b0 : decide (x5_1 < (l0.length : Int)) = true := decide_eq_true c3
    clear c3
    by_cases c4 : 0 ≤ x5_1
    ·rw [if_pos c4] at H
     have c4b0 : decide (0 ≤ x5_1) = true := decide_eq_true c4
     clear c4
     by_cases c5 : (rd l0 x5_1) = a1
     ·rw [if_pos c5] at H
      have c5b0 : ((rd l0 x5_1) == a1) = true := beq_iff_eq.mpr c5
      have c5b1 : ((rd l0 x5_1) != a1) = false := bne_eq_false_iff_eq.mpr c5
      clear c5
      obtain rfl := Option.some.inj H
      have p211 : 0 ≤ (x5_1 : Int) := od (by first | (with_reducible assumption) | assumption)
      have q211 : x5_1 < (l0.length : Int) := od (by first | (with_reducible assumption) | assumption)
      obtain ⟨ad211, e211, hx211_0⟩ := Kd.at_int HR0.out x5_1 p211 q211
      cases e211
      replace p211 := eq_true p211
      replace q211 := eq_true q211
      go_wp2
      go_ret
      exact ⟨by first | rfl | (simp; done) | (simp [*]; done), by repeat (first | exact Drawn0.refl _ | apply Drawn0.step)⟩
     ·rw [if_neg c5] at H
      have c5b0 : ((rd l0 x5_1) == a1) = false := beq_eq_false_iff_ne.mpr c5
      have c5b1 : ((rd l0 x5_1) != a1) = true := bne_iff_ne.mpr c5
      have H' := aS H
      clear H
      have p211 : 0 ≤ (x5_1 : Int) := od (by first | (with_reducible assumption) | assumption)
      have q211 : x5_1 < (l0.length : Int) := od (by first | (with_reducible assumption) | assumption)
      obtain ⟨ad211, e211, hx211_0⟩ := Kd.at_int HR0.out x5_1 p211 q211
      cases e211
      replace p211 := eq_true p211
      replace q211 := eq_true q211
      go_wp2
      go_roundg k1
      case measure => have := HK1.out; omega
      case rel => exact ⟨(wrap64 (x5_1 + 1)), (by first | rfl | (simp; done) | simp [*]), H', ⟨by have := HK1.out; omega⟩, by repeat (first | exact Drawn0.refl _ | apply Drawn0.step)⟩
    ·rw [if_neg c4] at H
     exact absurd H (by simp)
   ·rw [if_neg c3] at H
    have c3b0 : decide (x5_1 < (l0.length : Int)) = false := decide_eq_false c3
    clear c3
    obtain rfl := Option.some.inj H
    go_wp2
    go_ret
    exact ⟨by first | rfl | (simp; done) | (simp [*]; done), by repeat (first | exact Drawn0.refl _ | apply Drawn0.step)⟩
end Go.Proofs.YthjnallbbhnndaaDoor.XWk
