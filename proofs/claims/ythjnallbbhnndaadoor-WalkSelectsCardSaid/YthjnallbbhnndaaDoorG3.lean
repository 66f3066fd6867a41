/- Written by this session's program (wip/xp) out of the translation as Lean prints it: for each Go function a Lean function and the proof that the code answers just so, on the conditions named in each statement. -/
import Derived.Test.YthjnallbbhnndaaDoorG2
import Derived.Maps.OwnIn
import Derived.Sort.LoopGhostIn
import Derived.Outline
import Derived.WalkSpells
namespace Go.Proofs.YthjnallbbhnndaaDoor.XWs
open Go.Proofs.YthjnallbbhnndaaDoor.Short Go.RowKit Go.Proofs.YthjnallbbhnndaaDoorW.PrintWords Go.Proofs.YthjnallbbhnndaaDoorW.PrintLast Go.Proofs.YthjnallbbhnndaaDoorW.PrintMore
attribute [local go_sem] max2_int min2_int max_two min_two max_three min_three max_four min_four   -- for this text's walks alone
set_option linter.unusedVariables false
set_option linter.unusedSimpArgs false
def walk_walker_step.j0 : Nat → Int → Int → Int → Bool → List (S43) → Bool → Option (Int × Bool)
 | 0, _, _, _, _, _, _ => none
 | k + 1, x1, x2, x7, x23, x1000, x1001 => if x23 = true then ((walk_walker_kid.f x1000 x1001 x1 (x2 == 5)).bind fun bt226 => (some (bt226.1, bt226.2))) else (if x7 = 6 then ((walk_walker_beside.f k x1000 x1001 x1 1).bind fun bt228 => (some (bt228.1, bt228.2))) else (if x7 = 7 then ((walk_walker_beside.f k x1000 x1001 x1 (-1)).bind fun bt230 => (some (bt230.1, bt230.2))) else (if 0 ≤ x1 then (if x1 < (x1000.length : Int) then (some ((q00 x1000 x1).f4, x1001)) else (none)) else (none))))
def walk_walker_step.f (k : Nat) (s0_0 : List (S43)) (s0_1 : Bool) (a1 : Int) (a2 : Int) : Option (Int × Bool) := if a2 = 1 then ((walk_walker_next.f k s0_0 s0_1 a1).bind fun bt220 => (some (bt220.1, bt220.2))) else (if a2 = 2 then ((walk_walker_last.f k s0_0 s0_1 a1).bind fun bt222 => (some (bt222.1, bt222.2))) else (if a2 = 3 then ((walk_walker_over.f k s0_0 s0_1 a1).bind fun bt224 => (some (bt224.1, bt224.2))) else (if a2 = 4 then (walk_walker_step.j0 k a1 a2 a2 (a2 == 4) s0_0 s0_1) else (walk_walker_step.j0 k a1 a2 a2 (a2 == 5) s0_0 s0_1))))
theorem walk_walker_step.mono_l : ∀ k, (∀ y0 y1 y2 y3 y4 y5, LeO (walk_walker_step.j0 k y0 y1 y2 y3 y4 y5) (walk_walker_step.j0 (k + 1) y0 y1 y2 y3 y4 y5))
 | 0 => fun _ _ _ _ _ _ r h => by simp [walk_walker_step.j0] at h
 | k + 1 => by
  have ih0 := walk_walker_step.mono_l k
  ·intro y0 y1 y2 y3 y4 y5
   unfold walk_walker_step.j0
   repeat' first | with_reducible first | apply ih0 | apply walk_walker_beside.mono | apply walk_walker_last.mono | apply walk_walker_next.mono | apply walk_walker_over.mono | exact LeO.refl _ | exact LeO.none _ | refine LeO.ite ?_ ?_ | refine LeO.bind ?_ (fun _ => ?_) | (first | apply ih0 | apply walk_walker_beside.mono | apply walk_walker_last.mono | apply walk_walker_next.mono | apply walk_walker_over.mono | exact LeO.none _ | refine LeO.ite ?_ ?_ | refine LeO.bind ?_ (fun _ => ?_))
theorem walk_walker_step.mono : ∀ a0 a1 a2 a3 k, LeO (walk_walker_step.f k a0 a1 a2 a3) (walk_walker_step.f (k + 1) a0 a1 a2 a3) := by
 intro a0 a1 a2 a3 k
 have ih0 := walk_walker_step.mono_l k
 unfold walk_walker_step.f
 repeat' first | with_reducible first | apply ih0 | apply walk_walker_beside.mono | apply walk_walker_last.mono | apply walk_walker_next.mono | apply walk_walker_over.mono | exact LeO.refl _ | exact LeO.none _ | refine LeO.ite ?_ ?_ | refine LeO.bind ?_ (fun _ => ?_) | (first | apply ih0 | apply walk_walker_beside.mono | apply walk_walker_last.mono | apply walk_walker_next.mono | apply walk_walker_over.mono | exact LeO.none _ | refine LeO.ite ?_ ?_ | refine LeO.bind ?_ (fun _ => ?_))
set_option maxHeartbeats 8000000 in
set_option maxRecDepth 100000 in
theorem walk_walker_step.calls (k : Nat) (g : Nat) (s0_0 : List (S43)) (s0_1 : Bool) (a1 : Int) (a2 : Int) (r1 : Int) (r2 : Bool) (w0 w : World) (hI : q02 w0 w g s0_0 s0_1) (hB : Below w0.heap.size w0 w) (h : walk_walker_step.f k s0_0 s0_1 a1 a2 = some (r1, r2)) :
 Calls Tryd.prog 71 #[.pointer (some ⟨g, 0, none⟩), .int .i64 a1, .int .i64 a2] w fun e w' => e = .returned (.int .i64 r1) ∧ q02 w0 w' g s0_0 r2 ∧ Below w0.heap.size w0 w' ∧ q08 w w' g none := by
 have HI0 := aS hI
 have HK := aS (q08.refl w g none)
 have HL := aS hB.size
 clear hI
 have HW0 := aS hB.size
 have HB := aS hB
 clear hB
 have H := h; clear h; unfold walk_walker_step.f at H
 refine iE H ?p4 ?n4 <;> clear H
 case' p4 => intro c4b0 c4b1 H
 case' n4 => intro c4 c4b0 c4b1 H; refine iE H ?p7 ?n7 <;> clear H
 case' p7 => intro c7b0 c7b1 H
 case' n7 => intro c7 c7b0 c7b1 H; refine iE H ?p10 ?n10 <;> clear H
 case' p10 => intro c10b0 c10b1 H
 case' n10 => intro c10 c10b0 c10b1 H
 case p4 =>
  replace H := iB H
  obtain ⟨⟨t220, t221⟩, A5, H⟩ := H
  try dsimp only at H
  simp only [Option.some.injEq, Prod.mk.injEq] at H
  obtain ⟨rfl, rfl⟩ := H
  go_enter Tryd.func71, Tryd.ntmps71
  go_wp2_with (first | ((with_reducible refine q06 (f := 115) rfl ?_); refine q0l (some 12) rfl rfl Tryd.func115 (by kernel_rfl) rfl #[.pointer (some ⟨g, 0, none⟩), .int .i64 a1] rfl zd ?_; (with_reducible refine (walk_walker_next.calls k g s0_0 s0_1 a1 t220 t221 w0 _ ?side1 ?side2 A5.out).mono ?_); (case side1 => repeat (first | (with_reducible first | exact HI0.out | apply q02.alloc | apply q02.drewN | apply q02.drew | apply q02.set_1) | exact HI0.out)); (case side2 => repeat (first | (with_reducible first | exact HB.out | apply bA | apply bN | apply bD | refine bS ?_ (q02.ge HI0.out)) | exact HB.out)); rintro e w6 ⟨rfl, hi, hb, hk⟩; refine ⟨_, rfl, ?_⟩; replace HK := aS (q08.trans (by repeat (first | (with_reducible first | exact HK.out | apply q08.set_ | apply q0b | apply q0f | apply q0c) | exact HK.out)) hk (.inl rfl)); replace HI0 := aS (hi); replace HB := aS (hb); (try clear hb); (try clear hb2); (try clear hk); (try clear hi)))
  go_ret
  exact ⟨by first | rfl | (simp [q04, q03] <;> rfl) | (simp [*, q04, q03] <;> rfl), by repeat (first | (with_reducible first | exact HI0.out | apply q02.alloc | apply q02.drewN | apply q02.drew | apply q02.set_1) | exact HI0.out), by repeat (first | (with_reducible first | exact HB.out | apply bA | apply bN | apply bD | refine bS ?_ (q02.ge HI0.out)) | exact HB.out), by repeat (first | (with_reducible first | exact HK.out | apply q08.set_ | apply q0b | apply q0f | apply q0c) | exact HK.out)⟩
 case p7 =>
  replace H := iB H
  obtain ⟨⟨t222, t223⟩, A8, H⟩ := H
  try dsimp only at H
  simp only [Option.some.injEq, Prod.mk.injEq] at H
  obtain ⟨rfl, rfl⟩ := H
  go_enter Tryd.func71, Tryd.ntmps71
  go_wp2_with (first | ((with_reducible refine q06 (f := 116) rfl ?_); refine q0l (some 17) rfl rfl Tryd.func116 (by kernel_rfl) rfl #[.pointer (some ⟨g, 0, none⟩), .int .i64 a1] rfl zd ?_; (with_reducible refine (walk_walker_last.calls k g s0_0 s0_1 a1 t222 t223 w0 _ ?side1 ?side2 A8.out).mono ?_); (case side1 => repeat (first | (with_reducible first | exact HI0.out | apply q02.alloc | apply q02.drewN | apply q02.drew | apply q02.set_1) | exact HI0.out)); (case side2 => repeat (first | (with_reducible first | exact HB.out | apply bA | apply bN | apply bD | refine bS ?_ (q02.ge HI0.out)) | exact HB.out)); rintro e w9 ⟨rfl, hi, hb, hk⟩; refine ⟨_, rfl, ?_⟩; replace HK := aS (q08.trans (by repeat (first | (with_reducible first | exact HK.out | apply q08.set_ | apply q0b | apply q0f | apply q0c) | exact HK.out)) hk (.inl rfl)); replace HI0 := aS (hi); replace HB := aS (hb); (try clear hb); (try clear hb2); (try clear hk); (try clear hi)))
  go_ret
  exact ⟨by first | rfl | (simp [q04, q03] <;> rfl) | (simp [*, q04, q03] <;> rfl), by repeat (first | (with_reducible first | exact HI0.out | apply q02.alloc | apply q02.drewN | apply q02.drew | apply q02.set_1) | exact HI0.out), by repeat (first | (with_reducible first | exact HB.out | apply bA | apply bN | apply bD | refine bS ?_ (q02.ge HI0.out)) | exact HB.out), by repeat (first | (with_reducible first | exact HK.out | apply q08.set_ | apply q0b | apply q0f | apply q0c) | exact HK.out)⟩
 case p10 =>
  replace H := iB H
  obtain ⟨⟨t224, t225⟩, A11, H⟩ := H
  try dsimp only at H
  simp only [Option.some.injEq, Prod.mk.injEq] at H
  obtain ⟨rfl, rfl⟩ := H
  go_enter Tryd.func71, Tryd.ntmps71
  go_wp2_with (first | ((with_reducible refine q06 (f := 117) rfl ?_); refine q0l (some 22) rfl rfl Tryd.func117 (by kernel_rfl) rfl #[.pointer (some ⟨g, 0, none⟩), .int .i64 a1] rfl zd ?_; (with_reducible refine (walk_walker_over.calls k g s0_0 s0_1 a1 t224 t225 w0 _ ?side1 ?side2 A11.out).mono ?_); (case side1 => repeat (first | (with_reducible first | exact HI0.out | apply q02.alloc | apply q02.drewN | apply q02.drew | apply q02.set_1) | exact HI0.out)); (case side2 => repeat (first | (with_reducible first | exact HB.out | apply bA | apply bN | apply bD | refine bS ?_ (q02.ge HI0.out)) | exact HB.out)); rintro e w12 ⟨rfl, hi, hb, hk⟩; refine ⟨_, rfl, ?_⟩; replace HK := aS (q08.trans (by repeat (first | (with_reducible first | exact HK.out | apply q08.set_ | apply q0b | apply q0f | apply q0c) | exact HK.out)) hk (.inl rfl)); replace HI0 := aS (hi); replace HB := aS (hb); (try clear hb); (try clear hb2); (try clear hk); (try clear hi)))
  go_ret
  exact ⟨by first | rfl | (simp [q04, q03] <;> rfl) | (simp [*, q04, q03] <;> rfl), by repeat (first | (with_reducible first | exact HI0.out | apply q02.alloc | apply q02.drewN | apply q02.drew | apply q02.set_1) | exact HI0.out), by repeat (first | (with_reducible first | exact HB.out | apply bA | apply bN | apply bD | refine bS ?_ (q02.ge HI0.out)) | exact HB.out), by repeat (first | (with_reducible first | exact HK.out | apply q08.set_ | apply q0b | apply q0f | apply q0c) | exact HK.out)⟩
 case n10 =>
  have HC13 := aS H
  clear H
  go_enter Tryd.func71, Tryd.ntmps71
  go_upto_if 23 with (fail)
  go_cut [23] (fun v23 wc => ∃ (kq : Nat) (x23_12 : Bool), v23 = .bool x23_12 ∧ Aside0 (walk_walker_step.j0 kq a1 a2 a2 x23_12 s0_0 s0_1 = some (r1, r2)) ∧ Aside0 (kq ≤ k) ∧ Aside0 (q02 w0 wc g s0_0 s0_1) ∧ Aside0 (q08 w wc g none) ∧ Aside0 (Below w0.heap.size w0 wc))
  case first =>
   have H := HC13.out
   clear HC13
   refine iE H ?p14 ?n14 <;> clear H
   case' p14 => intro c14b0 c14b1 H
   case' n14 => intro c14 c14b0 c14b1 H
   case p14|n14 =>
    (first | rw [c14b0] | (simp only [q0p, q0r]; rw [c14b0]) | skip)
    have H' := aS H
    clear H
    go_wp2
    go_meet
    case rel => exact ⟨_, _, zj, H', ⟨by first | omega | exact Nat.le_refl _⟩, ⟨by repeat (first | (with_reducible first | exact HI0.out | apply q02.alloc | apply q02.drewN | apply q02.drew | apply q02.set_1) | exact HI0.out)⟩, ⟨by repeat (first | (with_reducible first | exact HK.out | apply q08.set_ | apply q0b | apply q0f | apply q0c) | exact HK.out)⟩, ⟨by repeat (first | (with_reducible first | exact HB.out | apply bA | apply bN | apply bD | refine bS ?_ (q02.ge HI0.out)) | exact HB.out)⟩⟩
  case rest =>
   clear HC13
   obtain ⟨kq, x23_12, rfl, HA, HJ12, HI0, HK, HB⟩ := hcut
   cases kq with
   | zero => exact absurd HA.out (by simp [walk_walker_step.j0])
   | succ kj12 =>
    have H := HA.out
    clear HA
    simp only [walk_walker_step.j0] at H
    refine iV H ?p15 ?n15 <;> clear H
    case' p15 => intro c15 H; subst c15
    case' n15 => intro c15 H; subst c15; refine iE H ?p18 ?n18 <;> clear H
    case' p18 => intro c18b0 c18b1 H
    case' n18 => intro c18 c18b0 c18b1 H; refine iE H ?p21 ?n21 <;> clear H
    case' p21 => intro c21b0 c21b1 H
    case' n21 => intro c21 c21b0 c21b1 H; obtain ⟨ASzL_0, cSzL_0, HGzL, hgzL, HSzL_0⟩ := HI0.out; have hczL_0 := cellS116_0 HGzL; have hczL_1 := cellS116_1 HGzL; have hfzL_1 := q0w HGzL 1; clear HGzL hgzL; refine iLp H ?_; clear H; intro c24b0 H; refine iTp H ?_; clear H; intro c25b0 H
    case p15 =>
     replace H := iB H
     obtain ⟨⟨t226, t227⟩, A16, H⟩ := H
     try dsimp only at H
     simp only [Option.some.injEq, Prod.mk.injEq] at H
     obtain ⟨rfl, rfl⟩ := H
     go_wp2_with (first | ((with_reducible refine q06 (f := 118) rfl ?_); refine q0l (some 30) rfl rfl Tryd.func118 (by kernel_rfl) rfl #[.pointer (some ⟨g, 0, none⟩), .int .i64 a1, .bool (a2 == 5)] rfl zd ?_; (with_reducible refine (walk_walker_kid.calls g s0_0 s0_1 a1 (a2 == 5) t226 t227 w0 _ ?side1 ?side2 A16.out).mono ?_); (case side1 => repeat (first | (with_reducible first | exact HI0.out | apply q02.alloc | apply q02.drewN | apply q02.drew | apply q02.set_1) | exact HI0.out)); (case side2 => repeat (first | (with_reducible first | exact HB.out | apply bA | apply bN | apply bD | refine bS ?_ (q02.ge HI0.out)) | exact HB.out)); rintro e w17 ⟨rfl, hi, hb, hk⟩; refine ⟨_, rfl, ?_⟩; replace HK := aS (q08.trans (by repeat (first | (with_reducible first | exact HK.out | apply q08.set_ | apply q0b | apply q0f | apply q0c) | exact HK.out)) hk (.inl rfl)); replace HI0 := aS (hi); replace HB := aS (hb); (try clear hb); (try clear hb2); (try clear hk); (try clear hi)))
     go_ret
     exact ⟨by first | rfl | (simp [q04, q03] <;> rfl) | (simp [*, q04, q03] <;> rfl), by repeat (first | (with_reducible first | exact HI0.out | apply q02.alloc | apply q02.drewN | apply q02.drew | apply q02.set_1) | exact HI0.out), by repeat (first | (with_reducible first | exact HB.out | apply bA | apply bN | apply bD | refine bS ?_ (q02.ge HI0.out)) | exact HB.out), by repeat (first | (with_reducible first | exact HK.out | apply q08.set_ | apply q0b | apply q0f | apply q0c) | exact HK.out)⟩
    case p18 =>
     replace H := iB H
     obtain ⟨⟨t228, t229⟩, A19, H⟩ := H
     try dsimp only at H
     simp only [Option.some.injEq, Prod.mk.injEq] at H
     obtain ⟨rfl, rfl⟩ := H
     go_wp2_with (first | ((with_reducible refine q06 (f := 119) rfl ?_); refine q0l (some 35) rfl rfl Tryd.func119 (by kernel_rfl) rfl #[.pointer (some ⟨g, 0, none⟩), .int .i64 a1, .int .i64 1] rfl zd ?_; (with_reducible refine (walk_walker_beside.calls kj12 g s0_0 s0_1 a1 1 t228 t229 w0 _ ?side1 ?side2 A19.out).mono ?_); (case side1 => repeat (first | (with_reducible first | exact HI0.out | apply q02.alloc | apply q02.drewN | apply q02.drew | apply q02.set_1) | exact HI0.out)); (case side2 => repeat (first | (with_reducible first | exact HB.out | apply bA | apply bN | apply bD | refine bS ?_ (q02.ge HI0.out)) | exact HB.out)); rintro e w20 ⟨rfl, hi, hb, hk⟩; refine ⟨_, rfl, ?_⟩; replace HK := aS (q08.trans (by repeat (first | (with_reducible first | exact HK.out | apply q08.set_ | apply q0b | apply q0f | apply q0c) | exact HK.out)) hk (.inl rfl)); replace HI0 := aS (hi); replace HB := aS (hb); (try clear hb); (try clear hb2); (try clear hk); (try clear hi)))
     go_ret
     exact ⟨by first | rfl | (simp [q04, q03] <;> rfl) | (simp [*, q04, q03] <;> rfl), by repeat (first | (with_reducible first | exact HI0.out | apply q02.alloc | apply q02.drewN | apply q02.drew | apply q02.set_1) | exact HI0.out), by repeat (first | (with_reducible first | exact HB.out | apply bA | apply bN | apply bD | refine bS ?_ (q02.ge HI0.out)) | exact HB.out), by repeat (first | (with_reducible first | exact HK.out | apply q08.set_ | apply q0b | apply q0f | apply q0c) | exact HK.out)⟩
    case p21 =>
     replace H := iB H
     obtain ⟨⟨t230, t231⟩, A22, H⟩ := H
     try dsimp only at H
     simp only [Option.some.injEq, Prod.mk.injEq] at H
     obtain ⟨rfl, rfl⟩ := H
     go_wp2_with (first | ((with_reducible refine q06 (f := 119) rfl ?_); refine q0l (some 40) rfl rfl Tryd.func119 (by kernel_rfl) rfl #[.pointer (some ⟨g, 0, none⟩), .int .i64 a1, .int .i64 (-1)] rfl zd ?_; (with_reducible refine (walk_walker_beside.calls kj12 g s0_0 s0_1 a1 (-1) t230 t231 w0 _ ?side1 ?side2 A22.out).mono ?_); (case side1 => repeat (first | (with_reducible first | exact HI0.out | apply q02.alloc | apply q02.drewN | apply q02.drew | apply q02.set_1) | exact HI0.out)); (case side2 => repeat (first | (with_reducible first | exact HB.out | apply bA | apply bN | apply bD | refine bS ?_ (q02.ge HI0.out)) | exact HB.out)); rintro e w23 ⟨rfl, hi, hb, hk⟩; refine ⟨_, rfl, ?_⟩; replace HK := aS (q08.trans (by repeat (first | (with_reducible first | exact HK.out | apply q08.set_ | apply q0b | apply q0f | apply q0c) | exact HK.out)) hk (.inl rfl)); replace HI0 := aS (hi); replace HB := aS (hb); (try clear hb); (try clear hb2); (try clear hk); (try clear hi)))
     go_ret
     exact ⟨by first | rfl | (simp [q04, q03] <;> rfl) | (simp [*, q04, q03] <;> rfl), by repeat (first | (with_reducible first | exact HI0.out | apply q02.alloc | apply q02.drewN | apply q02.drew | apply q02.set_1) | exact HI0.out), by repeat (first | (with_reducible first | exact HB.out | apply bA | apply bN | apply bD | refine bS ?_ (q02.ge HI0.out)) | exact HB.out), by repeat (first | (with_reducible first | exact HK.out | apply q08.set_ | apply q0b | apply q0f | apply q0c) | exact HK.out)⟩
    case n21 =>
     simp only [Option.some.injEq, Prod.mk.injEq] at H
     obtain ⟨rfl, rfl⟩ := H
     obtain ⟨ad232, A232_2, c232_2, A232_5, c232_5, e232, hx232_0, hx232_1, hx232_2, hx232_3, hx232_4, hx232_5, HC232_2, HR232_2, HC232_5, HR232_5, p232, q232⟩ := q0m HB.out HSzL_0 a1 za za
     cases e232
     go_wp2
     go_ret
     exact ⟨by first | rfl | (simp [q04, q03] <;> rfl) | (simp [*, q04, q03] <;> rfl), by repeat (first | (with_reducible first | exact HI0.out | apply q02.alloc | apply q02.drewN | apply q02.drew | apply q02.set_1) | exact HI0.out), by repeat (first | (with_reducible first | exact HB.out | apply bA | apply bN | apply bD | refine bS ?_ (q02.ge HI0.out)) | exact HB.out), by repeat (first | (with_reducible first | exact HK.out | apply q08.set_ | apply q0b | apply q0f | apply q0c) | exact HK.out)⟩
def walk_Step.f (k : Nat) (l0 : List S43) (a1 : Bool) (n how : Int) : Option (Int × Bool × Int) :=
 (walk_check.f k l0 a1 []).bind fun e => if e = 0 then (if how < 1 ∨ how > 8 then some (0, false, 1) else (walk_check.f k l0 a1 [n]).bind fun e2 => if e2 = 0 then
  ((walk_walker_step.f k l0 a1 n how).bind fun r => some (max r.1 0, decide (r.1 ≥ 0), 0)) else some (0, false, e2)) else some (0, false, e)
set_option maxHeartbeats 8000000 in
set_option maxRecDepth 100000 in
theorem walk_Step.calls (k : Nat) (A0 : Option Addr) (c0 : Nat) (l0 : List S43) (a1 : Bool) (n how : Int) (r1 : Int) (r2 : Bool) (r3 : Int) (w : World) (hr0 : Kd.C k43 w A0 l0.length l0) (hc0 : l0.length ≤ c0) (h : walk_Step.f k l0 a1 n how = some (r1, r2, r3)) :
 Calls Tryd.prog 16 #[.agg #[.slice A0 l0.length c0, .bool a1], .int .i64 n, .int .i64 how] w fun e w' => e = .returned (.tuple #[.int .i64 r1, .bool r2, .int .i64 r3]) ∧ Below w.heap.size w w' := by
 have hu24 := Tryd.underlying24
 unfold walk_Step.f at h
 obtain ⟨e0, he0, h⟩ := Option.bind_eq_some_iff.1 h
 have HE := aS he0
 have HR := aS hr0
 have HC := aS hc0
 have HB := aS (Below.refl w.heap.size w)
 clear he0 hr0 hc0
 by_cases z0 : e0 = 0
 ·subst z0
  rw [if_pos rfl] at h
  by_cases hh : how < 1 ∨ how > 8
  ·rw [if_pos hh] at h
   simp only [Option.some.injEq, Prod.mk.injEq] at h
   obtain ⟨rfl, rfl, rfl⟩ := h
   by_cases h1 : how < 1
   ·have h1b : decide (how < 1) = true := decide_eq_true h1
    clear hh h1
    go_enter Tryd.func16, Tryd.ntmps16
    go_wp2_with (first | ((with_reducible refine q0g (N := 3) rfl ?_); refine q0n ?hg (N := 3) ?hd (cs := #[.slice A0 l0.length c0, .bool a1]) (t := 24) ?hr ?_; (case hd => rfl); (case hg => rfl); (case hr => first | (go_simp; done) | (go_simp; rfl)); intro gb hg wb hbox hb; have n0_ := aS (q01 (z7 HB.out) hb); have BK := aS hbox; have hcz0 : wb.cell? ⟨gb, 0, none⟩ = some (.slice A0 l0.length c0) := (q05 BK.out 0).trans rfl; have hcz1 : wb.cell? ⟨gb, 1, none⟩ = some (.bool a1) := (q05 BK.out 1).trans rfl; clear HB; have HB := n0_; clear n0_ hg hbox hb) | (go_at_call 70; (with_reducible refine (walk_check.nil0 k A0 c0 l0 a1 _ (Kd.C_below HR.out (z7 HB.out)) HC.out HE.out).mono ?_); rintro e w1 ⟨hb, g1, rfl, hI⟩; have n0_ := aS (q01 (z7 HB.out) hb); obtain ⟨w0g1, hI, hIB, hIW⟩ : ∃ w0, q02 w0 w1 g1 l0 a1 ∧ Below w0.heap.size w0 w1 ∧ Below w.heap.size w w0 := ⟨_, hI, hb, (z7 HB.out)⟩; clear HB; have HB := n0_; clear n0_; have HI := aS hI; have HIB := aS hIB; have HIW := aS hIW; clear hI hIB hIW; have BKn := aS (walk_check.blk BK.out hb); clear BK; have BK := BKn; clear BKn; clear hcz0 hcz1; have hcz0 : w1.cell? ⟨gb, 0, none⟩ = some (.slice A0 l0.length c0) := (q05 BK.out 0).trans rfl; have hcz1 : w1.cell? ⟨gb, 1, none⟩ = some (.bool a1) := (q05 BK.out 1).trans rfl; clear hb))
    go_ret3
    exact ⟨rfl, (z7 HB.out)⟩
   ·have h1b : decide (how < 1) = false := decide_eq_false h1
    have h2b : decide (8 < how) = true := decide_eq_true (by omega)
    clear hh h1
    go_enter Tryd.func16, Tryd.ntmps16
    go_wp2_with (first | ((with_reducible refine q0g (N := 3) rfl ?_); refine q0n ?hg (N := 3) ?hd (cs := #[.slice A0 l0.length c0, .bool a1]) (t := 24) ?hr ?_; (case hd => rfl); (case hg => rfl); (case hr => first | (go_simp; done) | (go_simp; rfl)); intro gb hg wb hbox hb; have n0_ := aS (q01 (z7 HB.out) hb); have BK := aS hbox; have hcz0 : wb.cell? ⟨gb, 0, none⟩ = some (.slice A0 l0.length c0) := (q05 BK.out 0).trans rfl; have hcz1 : wb.cell? ⟨gb, 1, none⟩ = some (.bool a1) := (q05 BK.out 1).trans rfl; clear HB; have HB := n0_; clear n0_ hg hbox hb) | (go_at_call 70; (with_reducible refine (walk_check.nil0 k A0 c0 l0 a1 _ (Kd.C_below HR.out (z7 HB.out)) HC.out HE.out).mono ?_); rintro e w1 ⟨hb, g1, rfl, hI⟩; have n0_ := aS (q01 (z7 HB.out) hb); obtain ⟨w0g1, hI, hIB, hIW⟩ : ∃ w0, q02 w0 w1 g1 l0 a1 ∧ Below w0.heap.size w0 w1 ∧ Below w.heap.size w w0 := ⟨_, hI, hb, (z7 HB.out)⟩; clear HB; have HB := n0_; clear n0_; have HI := aS hI; have HIB := aS hIB; have HIW := aS hIW; clear hI hIB hIW; have BKn := aS (walk_check.blk BK.out hb); clear BK; have BK := BKn; clear BKn; clear hcz0 hcz1; have hcz0 : w1.cell? ⟨gb, 0, none⟩ = some (.slice A0 l0.length c0) := (q05 BK.out 0).trans rfl; have hcz1 : w1.cell? ⟨gb, 1, none⟩ = some (.bool a1) := (q05 BK.out 1).trans rfl; clear hb))
    go_ret3
    exact ⟨rfl, (z7 HB.out)⟩
  ·rw [if_neg hh] at h
   have h1b : decide (how < 1) = false := decide_eq_false (by omega)
   have h2b : decide (8 < how) = false := decide_eq_false (by omega)
   obtain ⟨e2, he2, h⟩ := Option.bind_eq_some_iff.1 h
   obtain ⟨ly, hly⟩ : ∃ ly : List Int, ly = [n] := ⟨_, rfl⟩
   rw [← hly] at he2
   have HLL : Aside0 (ly.length ≤ 4611686018427387904) := ⟨by rw [hly]; simp⟩
   have HLY := aS hly
   have HE2 := aS he2
   clear hh he2 hly
   by_cases z2 : e2 = 0
   ·subst z2
    rw [if_pos rfl] at h
    obtain ⟨⟨s1, s2⟩, hs, h⟩ := Option.bind_eq_some_iff.1 h
    have HS := aS hs
    simp only [Option.some.injEq, Prod.mk.injEq] at h
    obtain ⟨rfl, rfl, rfl⟩ := h
    clear hs
    by_cases z3 : s1 < 0
    ·have z3b : decide (0 ≤ s1) = false := decide_eq_false (by omega)
     have z3c : decide (s1 ≥ 0) = false := decide_eq_false (by omega)
     have z3m := aS (show max s1 0 = 0 by omega)
     rw [z3c]
     go_enter Tryd.func16, Tryd.ntmps16
     go_wp2_with (first | ((with_reducible refine q0g (N := 3) rfl ?_); refine q0n ?hg (N := 3) ?hd (cs := #[.slice A0 l0.length c0, .bool a1]) (t := 24) ?hr ?_; (case hd => rfl); (case hg => rfl); (case hr => first | (go_simp; done) | (go_simp; rfl)); intro gb hg wb hbox hb; have n0_ := aS (q01 (z7 HB.out) hb); have BK := aS hbox; have hcz0 : wb.cell? ⟨gb, 0, none⟩ = some (.slice A0 l0.length c0) := (q05 BK.out 0).trans rfl; have hcz1 : wb.cell? ⟨gb, 1, none⟩ = some (.bool a1) := (q05 BK.out 1).trans rfl; clear HB; have HB := n0_; clear n0_ hg hbox hb) | (go_at_call 70; (with_reducible refine (walk_check.nil0 k A0 c0 l0 a1 _ (Kd.C_below HR.out (z7 HB.out)) HC.out HE.out).mono ?_); rintro e w1 ⟨hb, g1, rfl, hI⟩; have n0_ := aS (q01 (z7 HB.out) hb); obtain ⟨w0g1, hI, hIB, hIW⟩ : ∃ w0, q02 w0 w1 g1 l0 a1 ∧ Below w0.heap.size w0 w1 ∧ Below w.heap.size w w0 := ⟨_, hI, hb, (z7 HB.out)⟩; clear HB; have HB := n0_; clear n0_; have HI := aS hI; have HIB := aS hIB; have HIW := aS hIW; clear hI hIB hIW; have BKn := aS (walk_check.blk BK.out hb); clear BK; have BK := BKn; clear BKn; clear hcz0 hcz1; have hcz0 : w1.cell? ⟨gb, 0, none⟩ = some (.slice A0 l0.length c0) := (q05 BK.out 0).trans rfl; have hcz1 : w1.cell? ⟨gb, 1, none⟩ = some (.bool a1) := (q05 BK.out 1).trans rfl; clear hb) | ((with_reducible refine q0g (N := 32) rfl ?_); refine Kd.R_lit (Kd.int .i64) _ 3 ?hg (N := 32) ?hd (xs := ([n] : List Int)) (inner := [.int .i64 n]) (ok := fun _ => True) (okp := fun _ => True) ?hr ?hp (fun _ hk => hk) trivial (Below.refl _ _) (Nat.le_refl _) (by simp) ?_; (case hd => rfl); (case hg => rfl); (case hr => first | (go_simp; done) | (go_simp; rfl)); (case hp => exact (Reps.one (show Kd.M (Kd.int .i64) _ _ _ n [.int .i64 n] from rfl) (Reps.none _ _))); intro vl wl hol hb hg_ hnew_; clear hg_ hnew_; (first | rw [← HLY.out] at hol | (simp only [Int.reduceToNat] at hol; rw [← HLY.out] at hol)); obtain ⟨Al, cl, el⟩ := Kd.R_slice hol; subst el; have n0_ := aS (q01 (z7 HB.out) hb); clear HB; have HB := n0_; clear n0_; have HRl := aS (Kd.R_reads' hol).2.2; have HCl := aS (Kd.R_reads' hol).2.1; clear hol; have BKn := aS (walk_check.blk BK.out hb); clear BK; have BK := BKn; clear BKn; clear hcz0 hcz1; have hcz0 : wl.cell? ⟨gb, 0, none⟩ = some (.slice A0 l0.length c0) := (q05 BK.out 0).trans rfl; have hcz1 : wl.cell? ⟨gb, 1, none⟩ = some (.bool a1) := (q05 BK.out 1).trans rfl; clear hb) | (go_at_call 70; (with_reducible refine (walk_check.calls0 k A0 c0 l0 a1 Al cl ly _ (Kd.C_below HR.out (z7 HB.out)) HC.out (by repeat (first | (with_reducible exact HRl.out) | (with_reducible refine Kd.C_drewN ?_ _) | (with_reducible refine Kd.C_drew ?_) | (with_reducible refine Kd.C_alloc ?_ _))) HCl.out HLL.out HE2.out).mono ?_); rintro e w2 ⟨hb, g2, rfl, hI⟩; have n0_ := aS (q01 (z7 HB.out) hb); obtain ⟨w0g2, hI, hIB, hIW⟩ : ∃ w0, q02 w0 w2 g2 l0 a1 ∧ Below w0.heap.size w0 w2 ∧ Below w.heap.size w w0 := ⟨_, hI, hb, (z7 HB.out)⟩; clear HB; have HB := n0_; clear n0_; have HI := aS hI; have HIB := aS hIB; have HIW := aS hIW; clear hI hIB hIW; have BKn := aS (walk_check.blk BK.out hb); clear BK; have BK := BKn; clear BKn; clear hcz0 hcz1; have hcz0 : w2.cell? ⟨gb, 0, none⟩ = some (.slice A0 l0.length c0) := (q05 BK.out 0).trans rfl; have hcz1 : w2.cell? ⟨gb, 1, none⟩ = some (.bool a1) := (q05 BK.out 1).trans rfl; clear hb) | (go_at_call 71; (with_reducible refine (walk_walker_step.calls k g2 l0 a1 n how s1 s2 w0g2 _ (by repeat (first | (with_reducible exact HI.out) | (with_reducible apply q02.alloc) | (with_reducible apply q02.drewN) | (with_reducible apply q02.drew))) (z7 HIB.out) HS.out).mono ?_); rintro e w9 ⟨rfl, hI9, hb9, hk9⟩; have n0_ := aS (q01 HIW.out hb9); clear HB HI; have HB := n0_; clear n0_ hI9 hb9 hk9))
     go_ret3
     exact ⟨(by first | rfl | (rw [z3m.out]; rfl)), (z7 HB.out)⟩
    ·have z3b : decide (0 ≤ s1) = true := decide_eq_true (by omega)
     have z3c : decide (s1 ≥ 0) = true := decide_eq_true (by omega)
     have z3m := aS (show max s1 0 = s1 by omega)
     rw [z3c]
     go_enter Tryd.func16, Tryd.ntmps16
     go_wp2_with (first | ((with_reducible refine q0g (N := 3) rfl ?_); refine q0n ?hg (N := 3) ?hd (cs := #[.slice A0 l0.length c0, .bool a1]) (t := 24) ?hr ?_; (case hd => rfl); (case hg => rfl); (case hr => first | (go_simp; done) | (go_simp; rfl)); intro gb hg wb hbox hb; have n0_ := aS (q01 (z7 HB.out) hb); have BK := aS hbox; have hcz0 : wb.cell? ⟨gb, 0, none⟩ = some (.slice A0 l0.length c0) := (q05 BK.out 0).trans rfl; have hcz1 : wb.cell? ⟨gb, 1, none⟩ = some (.bool a1) := (q05 BK.out 1).trans rfl; clear HB; have HB := n0_; clear n0_ hg hbox hb) | (go_at_call 70; (with_reducible refine (walk_check.nil0 k A0 c0 l0 a1 _ (Kd.C_below HR.out (z7 HB.out)) HC.out HE.out).mono ?_); rintro e w1 ⟨hb, g1, rfl, hI⟩; have n0_ := aS (q01 (z7 HB.out) hb); obtain ⟨w0g1, hI, hIB, hIW⟩ : ∃ w0, q02 w0 w1 g1 l0 a1 ∧ Below w0.heap.size w0 w1 ∧ Below w.heap.size w w0 := ⟨_, hI, hb, (z7 HB.out)⟩; clear HB; have HB := n0_; clear n0_; have HI := aS hI; have HIB := aS hIB; have HIW := aS hIW; clear hI hIB hIW; have BKn := aS (walk_check.blk BK.out hb); clear BK; have BK := BKn; clear BKn; clear hcz0 hcz1; have hcz0 : w1.cell? ⟨gb, 0, none⟩ = some (.slice A0 l0.length c0) := (q05 BK.out 0).trans rfl; have hcz1 : w1.cell? ⟨gb, 1, none⟩ = some (.bool a1) := (q05 BK.out 1).trans rfl; clear hb) | ((with_reducible refine q0g (N := 32) rfl ?_); refine Kd.R_lit (Kd.int .i64) _ 3 ?hg (N := 32) ?hd (xs := ([n] : List Int)) (inner := [.int .i64 n]) (ok := fun _ => True) (okp := fun _ => True) ?hr ?hp (fun _ hk => hk) trivial (Below.refl _ _) (Nat.le_refl _) (by simp) ?_; (case hd => rfl); (case hg => rfl); (case hr => first | (go_simp; done) | (go_simp; rfl)); (case hp => exact (Reps.one (show Kd.M (Kd.int .i64) _ _ _ n [.int .i64 n] from rfl) (Reps.none _ _))); intro vl wl hol hb hg_ hnew_; clear hg_ hnew_; (first | rw [← HLY.out] at hol | (simp only [Int.reduceToNat] at hol; rw [← HLY.out] at hol)); obtain ⟨Al, cl, el⟩ := Kd.R_slice hol; subst el; have n0_ := aS (q01 (z7 HB.out) hb); clear HB; have HB := n0_; clear n0_; have HRl := aS (Kd.R_reads' hol).2.2; have HCl := aS (Kd.R_reads' hol).2.1; clear hol; have BKn := aS (walk_check.blk BK.out hb); clear BK; have BK := BKn; clear BKn; clear hcz0 hcz1; have hcz0 : wl.cell? ⟨gb, 0, none⟩ = some (.slice A0 l0.length c0) := (q05 BK.out 0).trans rfl; have hcz1 : wl.cell? ⟨gb, 1, none⟩ = some (.bool a1) := (q05 BK.out 1).trans rfl; clear hb) | (go_at_call 70; (with_reducible refine (walk_check.calls0 k A0 c0 l0 a1 Al cl ly _ (Kd.C_below HR.out (z7 HB.out)) HC.out (by repeat (first | (with_reducible exact HRl.out) | (with_reducible refine Kd.C_drewN ?_ _) | (with_reducible refine Kd.C_drew ?_) | (with_reducible refine Kd.C_alloc ?_ _))) HCl.out HLL.out HE2.out).mono ?_); rintro e w2 ⟨hb, g2, rfl, hI⟩; have n0_ := aS (q01 (z7 HB.out) hb); obtain ⟨w0g2, hI, hIB, hIW⟩ : ∃ w0, q02 w0 w2 g2 l0 a1 ∧ Below w0.heap.size w0 w2 ∧ Below w.heap.size w w0 := ⟨_, hI, hb, (z7 HB.out)⟩; clear HB; have HB := n0_; clear n0_; have HI := aS hI; have HIB := aS hIB; have HIW := aS hIW; clear hI hIB hIW; have BKn := aS (walk_check.blk BK.out hb); clear BK; have BK := BKn; clear BKn; clear hcz0 hcz1; have hcz0 : w2.cell? ⟨gb, 0, none⟩ = some (.slice A0 l0.length c0) := (q05 BK.out 0).trans rfl; have hcz1 : w2.cell? ⟨gb, 1, none⟩ = some (.bool a1) := (q05 BK.out 1).trans rfl; clear hb) | (go_at_call 71; (with_reducible refine (walk_walker_step.calls k g2 l0 a1 n how s1 s2 w0g2 _ (by repeat (first | (with_reducible exact HI.out) | (with_reducible apply q02.alloc) | (with_reducible apply q02.drewN) | (with_reducible apply q02.drew))) (z7 HIB.out) HS.out).mono ?_); rintro e w9 ⟨rfl, hI9, hb9, hk9⟩; have n0_ := aS (q01 HIW.out hb9); clear HB HI; have HB := n0_; clear n0_ hI9 hb9 hk9))
     go_ret3
     exact ⟨(by first | rfl | (rw [z3m.out]; rfl)), (z7 HB.out)⟩
   ·rw [if_neg z2] at h
    simp only [Option.some.injEq, Prod.mk.injEq] at h
    obtain ⟨rfl, rfl, rfl⟩ := h
    have z2b : (e2 == 0) = false := beq_eq_false_iff_ne.mpr z2
    have z2c : (e2 != 0) = true := bne_iff_ne.mpr z2
    have Z2 := aS z2
    clear z2
    go_enter Tryd.func16, Tryd.ntmps16
    go_wp2_with (first | ((with_reducible refine q0g (N := 3) rfl ?_); refine q0n ?hg (N := 3) ?hd (cs := #[.slice A0 l0.length c0, .bool a1]) (t := 24) ?hr ?_; (case hd => rfl); (case hg => rfl); (case hr => first | (go_simp; done) | (go_simp; rfl)); intro gb hg wb hbox hb; have n0_ := aS (q01 (z7 HB.out) hb); have BK := aS hbox; have hcz0 : wb.cell? ⟨gb, 0, none⟩ = some (.slice A0 l0.length c0) := (q05 BK.out 0).trans rfl; have hcz1 : wb.cell? ⟨gb, 1, none⟩ = some (.bool a1) := (q05 BK.out 1).trans rfl; clear HB; have HB := n0_; clear n0_ hg hbox hb) | (go_at_call 70; (with_reducible refine (walk_check.nil0 k A0 c0 l0 a1 _ (Kd.C_below HR.out (z7 HB.out)) HC.out HE.out).mono ?_); rintro e w1 ⟨hb, g1, rfl, hI⟩; have n0_ := aS (q01 (z7 HB.out) hb); obtain ⟨w0g1, hI, hIB, hIW⟩ : ∃ w0, q02 w0 w1 g1 l0 a1 ∧ Below w0.heap.size w0 w1 ∧ Below w.heap.size w w0 := ⟨_, hI, hb, (z7 HB.out)⟩; clear HB; have HB := n0_; clear n0_; have HI := aS hI; have HIB := aS hIB; have HIW := aS hIW; clear hI hIB hIW; have BKn := aS (walk_check.blk BK.out hb); clear BK; have BK := BKn; clear BKn; clear hcz0 hcz1; have hcz0 : w1.cell? ⟨gb, 0, none⟩ = some (.slice A0 l0.length c0) := (q05 BK.out 0).trans rfl; have hcz1 : w1.cell? ⟨gb, 1, none⟩ = some (.bool a1) := (q05 BK.out 1).trans rfl; clear hb) | ((with_reducible refine q0g (N := 32) rfl ?_); refine Kd.R_lit (Kd.int .i64) _ 3 ?hg (N := 32) ?hd (xs := ([n] : List Int)) (inner := [.int .i64 n]) (ok := fun _ => True) (okp := fun _ => True) ?hr ?hp (fun _ hk => hk) trivial (Below.refl _ _) (Nat.le_refl _) (by simp) ?_; (case hd => rfl); (case hg => rfl); (case hr => first | (go_simp; done) | (go_simp; rfl)); (case hp => exact (Reps.one (show Kd.M (Kd.int .i64) _ _ _ n [.int .i64 n] from rfl) (Reps.none _ _))); intro vl wl hol hb hg_ hnew_; clear hg_ hnew_; (first | rw [← HLY.out] at hol | (simp only [Int.reduceToNat] at hol; rw [← HLY.out] at hol)); obtain ⟨Al, cl, el⟩ := Kd.R_slice hol; subst el; have n0_ := aS (q01 (z7 HB.out) hb); clear HB; have HB := n0_; clear n0_; have HRl := aS (Kd.R_reads' hol).2.2; have HCl := aS (Kd.R_reads' hol).2.1; clear hol; have BKn := aS (walk_check.blk BK.out hb); clear BK; have BK := BKn; clear BKn; clear hcz0 hcz1; have hcz0 : wl.cell? ⟨gb, 0, none⟩ = some (.slice A0 l0.length c0) := (q05 BK.out 0).trans rfl; have hcz1 : wl.cell? ⟨gb, 1, none⟩ = some (.bool a1) := (q05 BK.out 1).trans rfl; clear hb) | (go_at_call 70; (with_reducible refine (walk_check.callsE k A0 c0 l0 a1 Al cl ly e2 Z2.out _ (Kd.C_below HR.out (z7 HB.out)) HC.out (by repeat (first | (with_reducible exact HRl.out) | (with_reducible refine Kd.C_drewN ?_ _) | (with_reducible refine Kd.C_drew ?_) | (with_reducible refine Kd.C_alloc ?_ _))) HCl.out HLL.out HE2.out).mono ?_); rintro e w2 ⟨hb, rfl⟩; have n0_ := aS (q01 (z7 HB.out) hb); clear HB; have HB := n0_; clear n0_; have BKn := aS (walk_check.blk BK.out hb); clear BK; have BK := BKn; clear BKn; clear hcz0 hcz1; have hcz0 : w2.cell? ⟨gb, 0, none⟩ = some (.slice A0 l0.length c0) := (q05 BK.out 0).trans rfl; have hcz1 : w2.cell? ⟨gb, 1, none⟩ = some (.bool a1) := (q05 BK.out 1).trans rfl; clear hb))
    go_ret3
    exact ⟨rfl, (z7 HB.out)⟩
 ·rw [if_neg z0] at h
  simp only [Option.some.injEq, Prod.mk.injEq] at h
  obtain ⟨rfl, rfl, rfl⟩ := h
  have z0b : (e0 == 0) = false := beq_eq_false_iff_ne.mpr z0
  have z0c : (e0 != 0) = true := bne_iff_ne.mpr z0
  have Z0 := aS z0
  clear z0
  go_enter Tryd.func16, Tryd.ntmps16
  go_wp2_with (first | ((with_reducible refine q0g (N := 3) rfl ?_); refine q0n ?hg (N := 3) ?hd (cs := #[.slice A0 l0.length c0, .bool a1]) (t := 24) ?hr ?_; (case hd => rfl); (case hg => rfl); (case hr => first | (go_simp; done) | (go_simp; rfl)); intro gb hg wb hbox hb; have n0_ := aS (q01 (z7 HB.out) hb); have BK := aS hbox; have hcz0 : wb.cell? ⟨gb, 0, none⟩ = some (.slice A0 l0.length c0) := (q05 BK.out 0).trans rfl; have hcz1 : wb.cell? ⟨gb, 1, none⟩ = some (.bool a1) := (q05 BK.out 1).trans rfl; clear HB; have HB := n0_; clear n0_ hg hbox hb) | (go_at_call 70; (with_reducible refine (walk_check.nilE k A0 c0 l0 a1 e0 Z0.out _ (Kd.C_below HR.out (z7 HB.out)) HC.out HE.out).mono ?_); rintro e w1 ⟨hb, rfl⟩; have n0_ := aS (q01 (z7 HB.out) hb); clear HB; have HB := n0_; clear n0_; have BKn := aS (walk_check.blk BK.out hb); clear BK; have BK := BKn; clear BKn; clear hcz0 hcz1; have hcz0 : w1.cell? ⟨gb, 0, none⟩ = some (.slice A0 l0.length c0) := (q05 BK.out 0).trans rfl; have hcz1 : w1.cell? ⟨gb, 1, none⟩ = some (.bool a1) := (q05 BK.out 1).trans rfl; clear hb))
  go_ret3
  exact ⟨rfl, (z7 HB.out)⟩
theorem walk_Step.mono (l0 : List S43) (a1 : Bool) (n how : Int) (k : Nat) : LeO (walk_Step.f k l0 a1 n how) (walk_Step.f (k + 1) l0 a1 n how) :=
 LeO.bind (walk_check.mono l0 a1 [] k) fun _ => LeO.ite (LeO.ite (LeO.refl _) (LeO.bind (walk_check.mono l0 a1 [n] k) fun _ => LeO.ite (LeO.bind (walk_walker_step.mono l0 a1 n how k) fun _ => LeO.refl _) (LeO.refl _))) (LeO.refl _)
theorem ne_own {W : World} {w0 : World} {g : Nat} {l0 : List S43} {q : Bool} {ad : Addr} {n c B : Nat} {xs : List Int} {ok : Nat → Prop} (hI : q02 w0 W g l0 q) (ho : (Kd.int .i64).R 3 W B ok (.slice (some ad) n c) xs) : ad.block ≠ g := by
 have := q02.own_ne hI ho (by decide)
 intro e
 exact this (by simp [Value.ownBlock, e])
def cpre : List Int → List Int → Nat
 | x :: p, y :: q => if x = y then cpre p q + 1 else 0
 | _, _ => 0
theorem cpre_le : ∀ p q : List Int, cpre p q ≤ p.length ∧ cpre p q ≤ q.length
 | [], _ => by simp [cpre]
 | _ :: _, [] => by simp [cpre]
 | x :: p, y :: q => by
  have := cpre_le p q
  unfold cpre
  split <;> simp <;> omega
def walk_Common.f (k : Nat) (l0 : List S43) (a1 : Bool) (a b : Int) : Option (Int × Int) :=
 (walk_check.f k l0 a1 [a, b]).bind fun e => if e = 0 then (walk_walker_path.f k l0 a1 a).bind fun p => (walk_walker_path.f k l0 a1 b).bind fun q =>
  if p.2 = a1 ∧ q.2 = a1 ∧ 1 ≤ cpre p.1 q.1 ∧ p.1.length ≤ 4611686018427387904 then some (rd p.1 ((cpre p.1 q.1 - 1 : Nat) : Int), 0) else none else some (0, e)
set_option maxHeartbeats 8000000 in
set_option maxRecDepth 100000 in
theorem walk_Common.calls (k : Nat) (A0 : Option Addr) (c0 : Nat) (l0 : List S43) (a1 : Bool) (a b : Int) (r1 : Int) (r2 : Int) (w : World) (hr0 : Kd.C k43 w A0 l0.length l0) (hc0 : l0.length ≤ c0) (h : walk_Common.f k l0 a1 a b = some (r1, r2)) :
 Calls Tryd.prog 23 #[.agg #[.slice A0 l0.length c0, .bool a1], .int .i64 a, .int .i64 b] w fun e w' => e = .returned (.tuple #[.int .i64 r1, .int .i64 r2]) ∧ Below w.heap.size w w' := by
 have hu24 := Tryd.underlying24
 unfold walk_Common.f at h
 obtain ⟨ly, hly⟩ : ∃ ly : List Int, ly = [a, b] := ⟨_, rfl⟩
 rw [← hly] at h
 have HLL : Aside0 (ly.length ≤ 4611686018427387904) := ⟨by rw [hly]; simp⟩
 have HLY := aS hly
 clear hly
 obtain ⟨e0, he0, h⟩ := Option.bind_eq_some_iff.1 h
 have HE := aS he0
 have HR := aS hr0
 have HC := aS hc0
 have HB := aS (Below.refl w.heap.size w)
 clear he0 hr0 hc0
 by_cases z0 : e0 = 0
 ·subst z0
  rw [if_pos rfl] at h
  obtain ⟨⟨p, p2⟩, hp, h⟩ := Option.bind_eq_some_iff.1 h
  obtain ⟨⟨q, q2⟩, hq, h⟩ := Option.bind_eq_some_iff.1 h
  by_cases hc : p2 = a1 ∧ q2 = a1 ∧ 1 ≤ cpre p q ∧ p.length ≤ 4611686018427387904
  ·have h2 : some (rd p ((cpre p q - 1 : Nat) : Int), (0 : Int)) = some (r1, r2) := (if_pos hc).symm.trans h
   clear h
   obtain ⟨e1, e2, hc1, hc2⟩ := hc
   rw [e1] at hp
   rw [e2] at hq
   have HP := aS hp
   have HQ := aS hq
   clear hp hq e1 e2
   simp only [Option.some.injEq, Prod.mk.injEq] at h2
   obtain ⟨rfl, rfl⟩ := h2
   have HC1 := aS hc1
   have HC2 := aS hc2
   clear hc1 hc2
   go_enter Tryd.func23, Tryd.ntmps23
   go_wp2_with (first | ((with_reducible refine q0g (N := 3) rfl ?_); refine q0n ?hg (N := 3) ?hd (cs := #[.slice A0 l0.length c0, .bool a1]) (t := 24) ?hr ?_; (case hd => rfl); (case hg => rfl); (case hr => first | (go_simp; done) | (go_simp; rfl)); intro gb hg wb hbox hb; have n0_ := aS (q01 (z7 HB.out) hb); have BK := aS hbox; have hcz0 : wb.cell? ⟨gb, 0, none⟩ = some (.slice A0 l0.length c0) := (q05 BK.out 0).trans rfl; have hcz1 : wb.cell? ⟨gb, 1, none⟩ = some (.bool a1) := (q05 BK.out 1).trans rfl; clear HB; have HB := n0_; clear n0_ hg hbox hb) | ((with_reducible refine q0g (N := 17) rfl ?_); refine Kd.R_lit (Kd.int .i64) _ 3 ?hg (N := 17) ?hd (xs := ([a, b] : List Int)) (inner := [.int .i64 a, .int .i64 b]) (ok := fun _ => True) (okp := fun _ => True) ?hr ?hp (fun _ hk => hk) trivial (Below.refl _ _) (Nat.le_refl _) (by simp) ?_; (case hd => rfl); (case hg => rfl); (case hr => first | (go_simp; done) | (go_simp; rfl)); (case hp => exact (Reps.one (show Kd.M (Kd.int .i64) _ _ _ a [.int .i64 a] from rfl) (Reps.one (show Kd.M (Kd.int .i64) _ _ _ b [.int .i64 b] from rfl) (Reps.none _ _)))); intro vl wl hol hb hg_ hnew_; clear hg_ hnew_; (first | rw [← HLY.out] at hol | (simp only [Int.reduceToNat] at hol; rw [← HLY.out] at hol)); obtain ⟨Al, cl, el⟩ := Kd.R_slice hol; subst el; have n0_ := aS (q01 (z7 HB.out) hb); clear HB; have HB := n0_; clear n0_; have HRl := aS (Kd.R_reads' hol).2.2; have HCl := aS (Kd.R_reads' hol).2.1; clear hol; have BKn := aS (walk_check.blk BK.out hb); clear BK; have BK := BKn; clear BKn; clear hcz0 hcz1; have hcz0 : wl.cell? ⟨gb, 0, none⟩ = some (.slice A0 l0.length c0) := (q05 BK.out 0).trans rfl; have hcz1 : wl.cell? ⟨gb, 1, none⟩ = some (.bool a1) := (q05 BK.out 1).trans rfl; clear hb) | (go_at_call 70; (with_reducible refine (walk_check.calls0 k A0 c0 l0 a1 Al cl ly _ (Kd.C_below HR.out (z7 HB.out)) HC.out (by repeat (first | (with_reducible exact HRl.out) | (with_reducible refine Kd.C_drewN ?_ _) | (with_reducible refine Kd.C_drew ?_) | (with_reducible refine Kd.C_alloc ?_ _))) HCl.out HLL.out HE.out).mono ?_); rintro e w2 ⟨hb, g2, rfl, hI⟩; have n0_ := aS (q01 (z7 HB.out) hb); obtain ⟨w0g2, hI, hIB, hIW⟩ : ∃ w0, q02 w0 w2 g2 l0 a1 ∧ Below w0.heap.size w0 w2 ∧ Below w.heap.size w w0 := ⟨_, hI, hb, (z7 HB.out)⟩; clear HB; have HB := n0_; clear n0_; have HI := aS hI; have HIB := aS hIB; have HIW := aS hIW; clear hI hIB hIW; have BKn := aS (walk_check.blk BK.out hb); clear BK; have BK := BKn; clear BKn; clear hcz0 hcz1; have hcz0 : w2.cell? ⟨gb, 0, none⟩ = some (.slice A0 l0.length c0) := (q05 BK.out 0).trans rfl; have hcz1 : w2.cell? ⟨gb, 1, none⟩ = some (.bool a1) := (q05 BK.out 1).trans rfl; clear hb) | (go_at_call 76; have h_ := HKP.out; clear h_; (with_reducible refine (walk_walker_path.calls k g2 l0 a1 b q a1 w0g2 _ (by repeat (first | (with_reducible exact HI.out) | (with_reducible apply q02.alloc) | (with_reducible apply q02.drewN) | (with_reducible apply q02.drew))) (z7 HIB.out) HQ.out).mono ?_); rintro e wq ⟨vq, rfl, ho, hI9, hb9, hk9⟩; obtain ⟨Aq, cq, eo⟩ := Kd.R_slice ho; subst eo; have HNQ : Aside0 (∀ ad, Aq = some ad → ad.block ≠ g2) := ⟨fun ad e_ => by subst e_; exact ne_own hI9 ho⟩; have HCQ := aS (Kd.R_reads' ho).2.2; have hkp := (show q08 wp _ g2 none from (by repeat (first | exact HKP.out | apply q0b | apply q0f | apply q0c))).trans hk9 (.inl rfl); clear HKP; have HKP := aS hkp; clear HB HI HIB ho hk9 hkp; have HI := aS hI9; have HIB := aS hb9; have HB := aS (q01 HIW.out hb9); clear hI9 hb9) | (go_at_call 76; (with_reducible refine (walk_walker_path.calls k g2 l0 a1 a p a1 w0g2 _ (by repeat (first | (with_reducible exact HI.out) | (with_reducible apply q02.alloc) | (with_reducible apply q02.drewN) | (with_reducible apply q02.drew))) (z7 HIB.out) HP.out).mono ?_); rintro e wp ⟨vp, rfl, ho, hI9, hb9, hk9⟩; obtain ⟨Ap, cp, eo⟩ := Kd.R_slice ho; subst eo; have HNP : Aside0 (∀ ad, Ap = some ad → ad.block ≠ g2) := ⟨fun ad e_ => by subst e_; exact ne_own hI9 ho⟩; have HCP := aS (Kd.R_reads' ho).2.2; have HKP := aS (q08.refl wp g2 none); clear HB HI HIB ho hk9; have HI := aS hI9; have HIB := aS hb9; have HB := aS (q01 HIW.out hb9); clear hI9 hb9))
   go_loopw [12] (fun v W => ∃ i : Nat, v = .int .i64 (i : Int) ∧ Aside0 (i + cpre (p.drop i) (q.drop i) = cpre p q) ∧ Aside0 (q08 wp W g2 none) ∧ Aside0 (q08 wq W g2 none) ∧ Aside0 (Below w.heap.size w W)) (fun v _ => walk_check.left p v)
   case atStart => exact ⟨0, rfl, ⟨by simp⟩, ⟨by repeat (first | exact HKP.out | apply q0b | apply q0f | apply q0c)⟩, ⟨by repeat (first | exact q08.refl _ _ _ | apply q0b | apply q0f | apply q0c)⟩, ⟨(z7 HB.out)⟩⟩
   case round =>
    clear HB
    obtain ⟨i, rfl, HI2, HK1, HK2, HB⟩ := hrel
    have hle := cpre_le p q
    have hi := HI2.out
    by_cases ci : i < p.length
    ·have cib : decide ((i : Int) < (p.length : Int)) = true := decide_eq_true (by omega)
     have cib2 : decide (i < p.length) = true := decide_eq_true ci
     by_cases cj : i < q.length
     ·have cjb : decide ((i : Int) < (q.length : Int)) = true := decide_eq_true (by omega)
      have cjb2 : decide (i < q.length) = true := decide_eq_true cj
      have p1 : 0 ≤ (i : Int) := Int.natCast_nonneg _
      have q1 : (i : Int) < (p.length : Int) := by omega
      have q1' : (i : Int) < (q.length : Int) := by omega
      obtain ⟨ad1, e1, hx⟩ := Kd.at_int HCP.out (i : Int) p1 q1
      obtain ⟨ad2, e2, hy⟩ := Kd.at_int HCQ.out (i : Int) p1 q1'
      subst e1 e2
      replace hx := keep_cell HK1.out hx (by rw [q0k]; exact HNP.out _ rfl)
      replace hy := keep_cell HK2.out hy (by rw [q0k]; exact HNQ.out _ rfl)
      rw [show ((i : Int)).toNat = i from rfl] at hx hy
      replace p1 := eq_true p1
      replace q1 := eq_true q1
      replace q1' := eq_true q1'
      rw [walk_check.dropL p i ci, walk_check.dropL q i cj, cpre] at hi
      by_cases ce : rd p (i : Int) = rd q (i : Int)
      ·rw [if_pos ce] at hi
       have ceb : (rd p (i : Int) == rd q (i : Int)) = true := beq_iff_eq.mpr ce
       have hw : wrap64 ((i : Int) + 1) = ((i + 1 : Nat) : Int) := by have := HC2.out; unfold wrap64; omega
       have HI3 : Aside0 (i + 1 + cpre (p.drop (i + 1)) (q.drop (i + 1)) = cpre p q) := ⟨by omega⟩
       have CI := aS ci
       clear hi ci cj ce hle HI2
       go_wp2
       repeat (go_quiet (fail); try go_wp2)
       go_roundw
       case rel => exact ⟨i + 1, by first | rfl | simp [hw], HI3, ⟨by repeat (first | exact HK1.out | apply q0b | apply q0f | apply q0c)⟩, ⟨by repeat (first | exact HK2.out | apply q0b | apply q0f | apply q0c)⟩, ⟨(z7 HB.out)⟩⟩
       case measure => have := CI.out; simp [walk_check.left, hw]; omega
      ·rw [if_neg ce] at hi
       have ceb : (rd p (i : Int) == rd q (i : Int)) = false := beq_eq_false_iff_ne.mpr ce
       have hi0 : i = cpre p q := by omega
       have hc1 := HC1.out
       obtain ⟨m, hm⟩ : ∃ m : Nat, cpre p q = m + 1 := ⟨cpre p q - 1, by omega⟩
       have hml : m < p.length := by omega
       have p3 : 0 ≤ (m : Int) := Int.natCast_nonneg _
       have q3 : (m : Int) < (p.length : Int) := by omega
       obtain ⟨ad3, e3, hz⟩ := Kd.at_int HCP.out (m : Int) p3 q3
       first | subst e3 | (injection e3 with e3; subst e3)
       replace hz := keep_cell HK1.out hz (by rw [q0k]; exact HNP.out _ rfl)
       rw [show ((m : Int)).toNat = m from rfl] at hz
       have hw3 : wrap64 ((i : Int) - 1) = (m : Int) := by have := HC2.out; unfold wrap64; omega
       replace p3 := eq_true p3
       replace q3 := eq_true q3
       have HM : Aside0 (((cpre p q - 1 : Nat) : Int) = (m : Int)) := ⟨by omega⟩
       clear hi hle ci cj ce HI2 hc1 hm hml hi0
       go_wp2
       repeat (go_quiet (fail); try go_wp2)
       go_ret2
       exact ⟨(by rw [HM.out]; rfl), (z7 HB.out)⟩
     ·have cjb : decide ((i : Int) < (q.length : Int)) = false := decide_eq_false (by omega)
      have cjb2 : decide (i < q.length) = false := decide_eq_false cj
      have hi0 : i = cpre p q := by omega
      have ce : True := trivial
      have hc1 := HC1.out
      obtain ⟨m, hm⟩ : ∃ m : Nat, cpre p q = m + 1 := ⟨cpre p q - 1, by omega⟩
      have hml : m < p.length := by omega
      have p3 : 0 ≤ (m : Int) := Int.natCast_nonneg _
      have q3 : (m : Int) < (p.length : Int) := by omega
      obtain ⟨ad3, e3, hz⟩ := Kd.at_int HCP.out (m : Int) p3 q3
      first | subst e3 | (injection e3 with e3; subst e3)
      replace hz := keep_cell HK1.out hz (by rw [q0k]; exact HNP.out _ rfl)
      rw [show ((m : Int)).toNat = m from rfl] at hz
      have hw3 : wrap64 ((i : Int) - 1) = (m : Int) := by have := HC2.out; unfold wrap64; omega
      replace p3 := eq_true p3
      replace q3 := eq_true q3
      have HM : Aside0 (((cpre p q - 1 : Nat) : Int) = (m : Int)) := ⟨by omega⟩
      clear hi hle ci cj ce HI2 hc1 hm hml hi0
      go_wp2
      repeat (go_quiet (fail); try go_wp2)
      go_ret2
      exact ⟨(by rw [HM.out]; rfl), (z7 HB.out)⟩
    ·have cib : decide ((i : Int) < (p.length : Int)) = false := decide_eq_false (by omega)
     have cib2 : decide (i < p.length) = false := decide_eq_false ci
     have hi0 : i = cpre p q := by omega
     have ce : True := trivial
     have cj : True := trivial
     have hc1 := HC1.out
     obtain ⟨m, hm⟩ : ∃ m : Nat, cpre p q = m + 1 := ⟨cpre p q - 1, by omega⟩
     have hml : m < p.length := by omega
     have p3 : 0 ≤ (m : Int) := Int.natCast_nonneg _
     have q3 : (m : Int) < (p.length : Int) := by omega
     obtain ⟨ad3, e3, hz⟩ := Kd.at_int HCP.out (m : Int) p3 q3
     first | subst e3 | (injection e3 with e3; subst e3)
     replace hz := keep_cell HK1.out hz (by rw [q0k]; exact HNP.out _ rfl)
     rw [show ((m : Int)).toNat = m from rfl] at hz
     have hw3 : wrap64 ((i : Int) - 1) = (m : Int) := by have := HC2.out; unfold wrap64; omega
     replace p3 := eq_true p3
     replace q3 := eq_true q3
     have HM : Aside0 (((cpre p q - 1 : Nat) : Int) = (m : Int)) := ⟨by omega⟩
     clear hi hle ci cj ce HI2 hc1 hm hml hi0
     go_wp2
     repeat (go_quiet (fail); try go_wp2)
     go_ret2
     exact ⟨(by rw [HM.out]; rfl), (z7 HB.out)⟩
  ·have h2 : (none : Option (Int × Int)) = some (r1, r2) := (if_neg hc).symm.trans h
   exact absurd h2 (by simp)
 ·rw [if_neg z0] at h
  simp only [Option.some.injEq, Prod.mk.injEq] at h
  obtain ⟨rfl, rfl⟩ := h
  have z0b : (e0 == 0) = false := beq_eq_false_iff_ne.mpr z0
  have z0c : (e0 != 0) = true := bne_iff_ne.mpr z0
  have Z0 := aS z0
  clear z0
  go_enter Tryd.func23, Tryd.ntmps23
  go_wp2_with (first | ((with_reducible refine q0g (N := 3) rfl ?_); refine q0n ?hg (N := 3) ?hd (cs := #[.slice A0 l0.length c0, .bool a1]) (t := 24) ?hr ?_; (case hd => rfl); (case hg => rfl); (case hr => first | (go_simp; done) | (go_simp; rfl)); intro gb hg wb hbox hb; have n0_ := aS (q01 (z7 HB.out) hb); have BK := aS hbox; have hcz0 : wb.cell? ⟨gb, 0, none⟩ = some (.slice A0 l0.length c0) := (q05 BK.out 0).trans rfl; have hcz1 : wb.cell? ⟨gb, 1, none⟩ = some (.bool a1) := (q05 BK.out 1).trans rfl; clear HB; have HB := n0_; clear n0_ hg hbox hb) | ((with_reducible refine q0g (N := 17) rfl ?_); refine Kd.R_lit (Kd.int .i64) _ 3 ?hg (N := 17) ?hd (xs := ([a, b] : List Int)) (inner := [.int .i64 a, .int .i64 b]) (ok := fun _ => True) (okp := fun _ => True) ?hr ?hp (fun _ hk => hk) trivial (Below.refl _ _) (Nat.le_refl _) (by simp) ?_; (case hd => rfl); (case hg => rfl); (case hr => first | (go_simp; done) | (go_simp; rfl)); (case hp => exact (Reps.one (show Kd.M (Kd.int .i64) _ _ _ a [.int .i64 a] from rfl) (Reps.one (show Kd.M (Kd.int .i64) _ _ _ b [.int .i64 b] from rfl) (Reps.none _ _)))); intro vl wl hol hb hg_ hnew_; clear hg_ hnew_; (first | rw [← HLY.out] at hol | (simp only [Int.reduceToNat] at hol; rw [← HLY.out] at hol)); obtain ⟨Al, cl, el⟩ := Kd.R_slice hol; subst el; have n0_ := aS (q01 (z7 HB.out) hb); clear HB; have HB := n0_; clear n0_; have HRl := aS (Kd.R_reads' hol).2.2; have HCl := aS (Kd.R_reads' hol).2.1; clear hol; have BKn := aS (walk_check.blk BK.out hb); clear BK; have BK := BKn; clear BKn; clear hcz0 hcz1; have hcz0 : wl.cell? ⟨gb, 0, none⟩ = some (.slice A0 l0.length c0) := (q05 BK.out 0).trans rfl; have hcz1 : wl.cell? ⟨gb, 1, none⟩ = some (.bool a1) := (q05 BK.out 1).trans rfl; clear hb) | (go_at_call 70; (with_reducible refine (walk_check.callsE k A0 c0 l0 a1 Al cl ly e0 Z0.out _ (Kd.C_below HR.out (z7 HB.out)) HC.out (by repeat (first | (with_reducible exact HRl.out) | (with_reducible refine Kd.C_drewN ?_ _) | (with_reducible refine Kd.C_drew ?_) | (with_reducible refine Kd.C_alloc ?_ _))) HCl.out HLL.out HE.out).mono ?_); rintro e w2 ⟨hb, rfl⟩; have n0_ := aS (q01 (z7 HB.out) hb); clear HB; have HB := n0_; clear n0_; have BKn := aS (walk_check.blk BK.out hb); clear BK; have BK := BKn; clear BKn; clear hcz0 hcz1; have hcz0 : w2.cell? ⟨gb, 0, none⟩ = some (.slice A0 l0.length c0) := (q05 BK.out 0).trans rfl; have hcz1 : w2.cell? ⟨gb, 1, none⟩ = some (.bool a1) := (q05 BK.out 1).trans rfl; clear hb))
  go_ret2
  exact ⟨rfl, (z7 HB.out)⟩
theorem walk_Common.mono (l0 : List S43) (a1 : Bool) (a b : Int) (k : Nat) : LeO (walk_Common.f k l0 a1 a b) (walk_Common.f (k + 1) l0 a1 a b) :=
 LeO.bind (walk_check.mono l0 a1 [a, b] k) fun _ => LeO.ite (LeO.bind (walk_walker_path.mono l0 a1 a k) fun _ => LeO.bind (walk_walker_path.mono l0 a1 b k) fun _ => LeO.refl _) (LeO.refl _)
def clerestorylaw1_oneP.f  : Option ((List (S43)) × Bool) := some ((([(⟨1, (⟨#[]⟩ : ByteArray), ([] : List (S122)), (⟨#[]⟩ : ByteArray), (-1), (([1] : List Int))⟩ : S43), (⟨2, (⟨#[112]⟩ : ByteArray), (([(⟨(⟨#[97]⟩ : ByteArray), (⟨#[34]⟩ : ByteArray)⟩ : S122)] : List (S122))), (⟨#[]⟩ : ByteArray), 0, (([2] : List Int))⟩ : S43), (⟨3, (⟨#[]⟩ : ByteArray), ([] : List (S122)), (⟨#[60, 10]⟩ : ByteArray), 1, ([] : List Int)⟩ : S43)] : List (S43))), false)
set_option maxHeartbeats 8000000 in
set_option maxRecDepth 100000 in
theorem clerestorylaw1_oneP.calls  (r1 : List (S43)) (r2 : Bool) (w : World) (h : clerestorylaw1_oneP.f  = some (r1, r2)) :
 Calls Tryd.prog 75 #[] w fun e w' => ∃ v0_ : Value, e = .returned (.agg #[v0_, .bool r2]) ∧ Kd.N k43 43 w' w.heap.size (fun k_ => (w.heap.size ≤ k_)) v0_ r1 ∧ Below w.heap.size w w' := by
 have hu24 := Tryd.underlying24
 have hu43 := Tryd.underlying43
 have hu122 := Tryd.underlying122
 have HB := aS (Below.refl w.heap.size w)
 have H := h; clear h; unfold clerestorylaw1_oneP.f at H
 obtain ⟨y234, hy234⟩ : ∃ y_ : List Int, y_ = (([1] : List Int)) := ⟨_, rfl⟩
 replace H : (some ((([(⟨1, (⟨#[]⟩ : ByteArray), ([] : List (S122)), (⟨#[]⟩ : ByteArray), (-1), y234⟩ : S43), (⟨2, (⟨#[112]⟩ : ByteArray), (([(⟨(⟨#[97]⟩ : ByteArray), (⟨#[34]⟩ : ByteArray)⟩ : S122)] : List (S122))), (⟨#[]⟩ : ByteArray), 0, (([2] : List Int))⟩ : S43), (⟨3, (⟨#[]⟩ : ByteArray), ([] : List (S122)), (⟨#[60, 10]⟩ : ByteArray), 1, ([] : List Int)⟩ : S43)] : List (S43))), false)) = some (r1, r2) := by first | (rw [hy234]; with_reducible exact H) | (have H2_ := (Option.bind_some _ _).symm.trans H; rw [hy234]; with_reducible exact H2_) | (have H2_ := (Option.bind_some _ _).symm.trans H; with_reducible exact H2_) | with_reducible exact H | (rw [hy234]; exact H) | exact H
 have Ny234 := aS hy234
 clear hy234
 obtain ⟨y237, hy237⟩ : ∃ y_ : List (S122), y_ = (([(⟨(⟨#[97]⟩ : ByteArray), (⟨#[34]⟩ : ByteArray)⟩ : S122)] : List (S122))) := ⟨_, rfl⟩
 replace H : (some ((([(⟨1, (⟨#[]⟩ : ByteArray), ([] : List (S122)), (⟨#[]⟩ : ByteArray), (-1), y234⟩ : S43), (⟨2, (⟨#[112]⟩ : ByteArray), y237, (⟨#[]⟩ : ByteArray), 0, (([2] : List Int))⟩ : S43), (⟨3, (⟨#[]⟩ : ByteArray), ([] : List (S122)), (⟨#[60, 10]⟩ : ByteArray), 1, ([] : List Int)⟩ : S43)] : List (S43))), false)) = some (r1, r2) := by first | (rw [hy237]; with_reducible exact H) | (have H2_ := (Option.bind_some _ _).symm.trans H; rw [hy237]; with_reducible exact H2_) | (have H2_ := (Option.bind_some _ _).symm.trans H; with_reducible exact H2_) | with_reducible exact H | (rw [hy237]; exact H) | exact H
 have Ny237 := aS hy237
 clear hy237
 obtain ⟨y240, hy240⟩ : ∃ y_ : List Int, y_ = (([2] : List Int)) := ⟨_, rfl⟩
 replace H : (some ((([(⟨1, (⟨#[]⟩ : ByteArray), ([] : List (S122)), (⟨#[]⟩ : ByteArray), (-1), y234⟩ : S43), (⟨2, (⟨#[112]⟩ : ByteArray), y237, (⟨#[]⟩ : ByteArray), 0, y240⟩ : S43), (⟨3, (⟨#[]⟩ : ByteArray), ([] : List (S122)), (⟨#[60, 10]⟩ : ByteArray), 1, ([] : List Int)⟩ : S43)] : List (S43))), false)) = some (r1, r2) := by first | (rw [hy240]; with_reducible exact H) | (have H2_ := (Option.bind_some _ _).symm.trans H; rw [hy240]; with_reducible exact H2_) | (have H2_ := (Option.bind_some _ _).symm.trans H; with_reducible exact H2_) | with_reducible exact H | (rw [hy240]; exact H) | exact H
 have Ny240 := aS hy240
 clear hy240
 obtain ⟨y243, hy243⟩ : ∃ y_ : List (S43), y_ = (([(⟨1, (⟨#[]⟩ : ByteArray), ([] : List (S122)), (⟨#[]⟩ : ByteArray), (-1), y234⟩ : S43), (⟨2, (⟨#[112]⟩ : ByteArray), y237, (⟨#[]⟩ : ByteArray), 0, y240⟩ : S43), (⟨3, (⟨#[]⟩ : ByteArray), ([] : List (S122)), (⟨#[60, 10]⟩ : ByteArray), 1, ([] : List Int)⟩ : S43)] : List (S43))) := ⟨_, rfl⟩
 replace H : (some (y243, false)) = some (r1, r2) := by first | (rw [hy243]; with_reducible exact H) | (have H2_ := (Option.bind_some _ _).symm.trans H; rw [hy243]; with_reducible exact H2_) | (have H2_ := (Option.bind_some _ _).symm.trans H; with_reducible exact H2_) | with_reducible exact H | (rw [hy243]; exact H) | exact H
 have Ny243 := aS hy243
 clear hy243
 simp only [Option.some.injEq, Prod.mk.injEq] at H
 obtain ⟨rfl, rfl⟩ := H
 go_enter Tryd.func75, Tryd.ntmps75
 go_wp2_with (first | ((with_reducible refine q0g (N := 0) rfl ?_); refine box0 rfl (N := 0) rfl (cs := #[.slice none 0 0, .bool false]) (t := 24) zi (z6 HB.out) ?_; clear HB; intro gb233 w1 BK233 GW233 HB; have GE233 := GW233) | ((with_reducible refine q0g (N := 1) rfl ?_); refine Kd.R_lit (Kd.int .i64) _ 3 ?hg (N := 1) ?hd (xs := ([1] : List Int)) (inner := [.int .i64 1]) (ok := fun _ => True) (okp := fun _ => True) ?hr ?hp (fun _ hk => hk) trivial (Below.refl _ _) (Nat.le_refl _) (by simp) ?_; (case hd => rfl); (case hg => rfl); (case hr => first | (go_simp; done) | (go_simp; rfl)); (case hp => exact (Reps.one (show Kd.M (Kd.int .i64) _ _ _ 1 [.int .i64 1] from rfl) (Reps.none _ _))); intro v235 w2 ho3 hb hg_ hnew_; clear hg_ hnew_; (first | rw [← Ny234.out] at ho3 | (simp only [Int.reduceToNat] at ho3; rw [← Ny234.out] at ho3)); have HO236 := aS (Kd.R_lower (Kd.R_newM (M := fun k_ => (w.heap.size ≤ k_)) ho3 (q0h (z1 HB.out GE233.out)) (fun k_ h_ => h_)) (q0h (z1 HB.out GE233.out))); replace BK233 := aS (q07 (g := gb233) (o := .cells #[.slice none 0 0, .bool false] 24 (0, 0)) (z8 BK233.out) hb); replace HB := aS (q01 (z1 HB.out GE233.out) hb); clear hb ho3; obtain ⟨Ao4, co4, eo4⟩ := Kd.R_slice HO236.out; subst eo4) | ((with_reducible refine q0g (N := 4) rfl ?_); refine Kd.R_lit k122 _ 122 ?hg (N := 4) ?hd (xs := ([(⟨(⟨#[97]⟩ : ByteArray), (⟨#[34]⟩ : ByteArray)⟩ : S122)] : List (S122))) (inner := [.string (⟨#[97]⟩ : ByteArray), .string (⟨#[34]⟩ : ByteArray)]) (ok := fun _ => True) (okp := fun _ => True) ?hr ?hp (fun _ hk => hk) trivial (Below.refl _ _) (Nat.le_refl _) (by simp) ?_; (case hd => rfl); (case hg => rfl); (case hr => first | (go_simp; done) | (go_simp; rfl)); (case hp => exact (Reps.c2 (show Kd.M k122 _ _ _ (⟨(⟨#[97]⟩ : ByteArray), (⟨#[34]⟩ : ByteArray)⟩ : S122) [.string (⟨#[97]⟩ : ByteArray), .string (⟨#[34]⟩ : ByteArray)] from (k122_mkM _ _ _ (⟨(⟨#[97]⟩ : ByteArray), (⟨#[34]⟩ : ByteArray)⟩ : S122) )) (Reps.none _ _))); intro v238 w5 ho6 hb hg_ hnew_; clear hg_ hnew_; (first | rw [← Ny237.out] at ho6 | (simp only [Int.reduceToNat] at ho6; rw [← Ny237.out] at ho6)); replace HO236 := aS (Kd.R_below (zg HO236.out) hb); have HO239 := aS (Kd.R_lower (Kd.R_newM (M := fun k_ => (w.heap.size ≤ k_)) ho6 (q0h (z1 HB.out GE233.out)) (fun k_ h_ => h_)) (q0h (z1 HB.out GE233.out))); replace BK233 := aS (q07 (g := gb233) (o := .cells #[.slice none 0 0, .bool false] 24 (0, 0)) (z8 BK233.out) hb); replace HB := aS (q01 (z1 HB.out GE233.out) hb); clear hb ho6) | ((with_reducible refine q0g (N := 5) rfl ?_); refine Kd.R_lit (Kd.int .i64) _ 3 ?hg (N := 5) ?hd (xs := ([2] : List Int)) (inner := [.int .i64 2]) (ok := fun _ => True) (okp := fun _ => True) ?hr ?hp (fun _ hk => hk) trivial (Below.refl _ _) (Nat.le_refl _) (by simp) ?_; (case hd => rfl); (case hg => rfl); (case hr => first | (go_simp; done) | (go_simp; rfl)); (case hp => exact (Reps.one (show Kd.M (Kd.int .i64) _ _ _ 2 [.int .i64 2] from rfl) (Reps.none _ _))); intro v241 w7 ho8 hb hg_ hnew_; clear hg_ hnew_; (first | rw [← Ny240.out] at ho8 | (simp only [Int.reduceToNat] at ho8; rw [← Ny240.out] at ho8)); have n0_ := aS (Kd.R_elder' (zg HO236.out) (Kd.R_base ho8) hb); have n1_ := aS (Kd.R_below (zg HO239.out) hb); have n2_ := aS (Kd.R_lower (Kd.R_new' (Kd.R_newM (M := fun k_ => (w.heap.size ≤ k_)) ho8 (q0h (z1 HB.out GE233.out)) (fun k_ h_ => h_)) (Kd.R_lt (zg HO236.out))) (q0h (z1 HB.out GE233.out))); have n3_ := aS (q07 (g := gb233) (o := .cells #[.slice none 0 0, .bool false] 24 (0, 0)) (z8 BK233.out) hb); have n4_ := aS (q01 (z1 HB.out GE233.out) hb); clear HO236; clear HO239; clear BK233; clear HB; have HO236 := n0_; have HO239 := n1_; have HO242 := n2_; have BK233 := n3_; have HB := n4_; clear n0_ n1_ n2_ n3_ n4_; clear hb ho8; obtain ⟨Ao9, co9, eo9⟩ := Kd.R_slice HO242.out; subst eo9; obtain ⟨Ao10, co10, eo10⟩ := Kd.R_slice HO239.out; subst eo10) | ((with_reducible refine q0g (N := 8) rfl ?_); refine Kd.N_lit k43 _ 43 ?hg (N' := 8) ?hd (xs := ([(⟨1, (⟨#[]⟩ : ByteArray), ([] : List (S122)), (⟨#[]⟩ : ByteArray), (-1), y234⟩ : S43), (⟨2, (⟨#[112]⟩ : ByteArray), y237, (⟨#[]⟩ : ByteArray), 0, y240⟩ : S43), (⟨3, (⟨#[]⟩ : ByteArray), ([] : List (S122)), (⟨#[60, 10]⟩ : ByteArray), 1, ([] : List Int)⟩ : S43)] : List (S43))) (inner := [.int .i64 1, .string (⟨#[]⟩ : ByteArray), .slice none 0 0, .string (⟨#[]⟩ : ByteArray), .int .i64 (-1), .slice Ao4 y234.length co4, .int .i64 2, .string (⟨#[112]⟩ : ByteArray), .slice Ao10 y237.length co10, .string (⟨#[]⟩ : ByteArray), .int .i64 0, .slice Ao9 y240.length co9, .int .i64 3, .string (⟨#[]⟩ : ByteArray), .slice none 0 0, .string (⟨#[60, 10]⟩ : ByteArray), .int .i64 1, .slice none 0 0]) (ok := (fun k_ => (w.heap.size ≤ k_) ∧ k_ ≠ gb233)) (okp := (fun k_ => (w.heap.size ≤ k_) ∧ k_ ≠ gb233)) ?hr ?hp (fun _ hk => hk) ((show ∀ k_, w7.heap.size ≤ k_ → (fun k_ => (w.heap.size ≤ k_) ∧ k_ ≠ gb233) k_ from fun k_ hk => ⟨(Nat.le_trans (q0h (z1 HB.out GE233.out)) hk), Kd.freshB (g := gb233) (o := .cells #[.slice none 0 0, .bool false] 24 (0, 0)) (z8 BK233.out) k_ hk⟩) _ (by first | exact Nat.le_refl _ | simp)) (Below.refl _ _) (Nat.le_refl _) (by simp) ?_; (case hd => rfl); (case hg => rfl); (case hr => first | (go_simp; done) | (go_simp; rfl)); (case hp => exact (Reps.c6 (show Kd.FK k43 _ _ (⟨1, (⟨#[]⟩ : ByteArray), ([] : List (S122)), (⟨#[]⟩ : ByteArray), (-1), y234⟩ : S43) [.int .i64 1, .string (⟨#[]⟩ : ByteArray), .slice none 0 0, .string (⟨#[]⟩ : ByteArray), .int .i64 (-1), .slice Ao4 y234.length co4] from (k43_mkF _ _ (⟨1, (⟨#[]⟩ : ByteArray), ([] : List (S122)), (⟨#[]⟩ : ByteArray), (-1), y234⟩ : S43) (Nat.le_refl _) (Kd.F_nil _ _ _) (Kd.R_reads' (Kd.R_mono (ok' := (fun k_ => (w.heap.size ≤ k_) ∧ k_ ≠ gb233)) (Kd.R_types (HO236.out) BK233.out (by decide)) (fun k_ hk => ⟨hk.1.1.1, hk.2⟩))).2.1 (Kd.R_F (Kd.R_mono (ok' := (fun k_ => (w.heap.size ≤ k_) ∧ k_ ≠ gb233)) (Kd.R_types (HO236.out) BK233.out (by decide)) (fun k_ hk => ⟨hk.1.1.1, hk.2⟩))))) (Reps.c6 (show Kd.FK k43 _ _ (⟨2, (⟨#[112]⟩ : ByteArray), y237, (⟨#[]⟩ : ByteArray), 0, y240⟩ : S43) [.int .i64 2, .string (⟨#[112]⟩ : ByteArray), .slice Ao10 y237.length co10, .string (⟨#[]⟩ : ByteArray), .int .i64 0, .slice Ao9 y240.length co9] from (k43_mkFV _ _ (⟨2, (⟨#[112]⟩ : ByteArray), y237, (⟨#[]⟩ : ByteArray), 0, y240⟩ : S43) (Kd.R_V (base' := 0) (Kd.R_mono (ok' := (fun k_ => (w.heap.size ≤ k_) ∧ k_ ≠ gb233)) (Kd.R_types (HO239.out) BK233.out (by decide)) (fun k_ hk => ⟨hk.1.1, hk.2⟩))) (Kd.R_V (base' := 0) (Kd.R_mono (ok' := (fun k_ => (w.heap.size ≤ k_) ∧ k_ ≠ gb233)) (Kd.R_types (HO242.out) BK233.out (by decide)) (fun k_ hk => ⟨hk.1.1.1, hk.2⟩))))) (Reps.c6 (show Kd.FK k43 _ _ (⟨3, (⟨#[]⟩ : ByteArray), ([] : List (S122)), (⟨#[60, 10]⟩ : ByteArray), 1, ([] : List Int)⟩ : S43) [.int .i64 3, .string (⟨#[]⟩ : ByteArray), .slice none 0 0, .string (⟨#[60, 10]⟩ : ByteArray), .int .i64 1, .slice none 0 0] from (k43_mkF _ _ (⟨3, (⟨#[]⟩ : ByteArray), ([] : List (S122)), (⟨#[60, 10]⟩ : ByteArray), 1, ([] : List Int)⟩ : S43) (Nat.le_refl _) (Kd.F_nil _ _ _) (Nat.le_refl _) (Kd.F_nil _ _ _))) (Reps.none _ _))))); intro v244 w11 ho12 hb hg_ hnew_; clear hg_ hnew_; (first | rw [← Ny243.out] at ho12 | (simp only [Int.reduceToNat] at ho12; rw [← Ny243.out] at ho12)); have n0_ := aS (Kd.N_lower ho12 (q0h (z1 HB.out GE233.out))); have n1_ := aS (q07 (g := gb233) (o := .cells #[.slice none 0 0, .bool false] 24 (0, 0)) (z8 BK233.out) hb); have n2_ := aS (q01 (z1 HB.out GE233.out) hb); clear BK233; clear HB; clear HO236; clear HO239; clear HO242; have HO245 := n0_; have BK233 := n1_; have HB := n2_; clear n0_ n1_ n2_; clear hb ho12; obtain ⟨Ao13, co13, eo13⟩ := Kd.N_slice HO245.out; subst eo13; obtain ⟨hcz14_0, hcz14_1, hfz14_0, hfz14_1⟩ := bk2 BK233.out))
 refine bodyPost_ret (results_cell_row rfl _ _ gb233 24 #[.slice Ao13 y243.length co13, .bool false] (0, 0) _ rfl (by (with_reducible repeat (first | refine kN ?_ _ | refine kD ?_ | refine kA ?_ _)); refine q0t (cs := #[.slice Ao13 y243.length co13, .bool false]) ?_ 1 _ rfl; (with_reducible repeat (first | refine kN ?_ _ | refine kD ?_ | refine kA ?_ _)); refine q0t (cs := #[.slice none 0 0, .bool false]) ?_ 0 _ rfl; (with_reducible repeat (first | refine kN ?_ _ | refine kD ?_ | refine kA ?_ _)); exact BK233.out) Tryd.underlying24 rfl (by kernel_rfl)) rfl ?_
 exact ⟨_, by first | rfl | (simp [q04, q03] <;> rfl) | (simp [*, q04, q03] <;> rfl), by (with_reducible repeat (first | apply nA | apply nN | apply nD)); exact Kd.N_mono (Kd.N_far (p := ⟨gb233, 1, none⟩) (Kd.N_far (p := ⟨gb233, 0, none⟩) (Kd.N_mono HO245.out (fun k_ hk => (⟨hk, hk.2⟩ : _ ∧ k_ ≠ gb233))) (fun _ hk => hk.2) (.slice Ao13 y243.length co13)) (fun _ hk => hk.2) (.bool false)) (fun _ hk => hk.1.1), by repeat (first | (with_reducible first | exact HB.out | apply bA | apply bN | apply bD | refine bS ?_ GE233.out) | exact HB.out)⟩
def clerestorylaw1_walkBegun.f (k : Nat)  : Option (Bool) := (clerestorylaw1_oneP.f).bind fun bt246 => ((walk_Step.f k bt246.1 bt246.2 1 1).bind fun bt250 => ((clerestorylaw1_oneP.f).bind fun bt253 => ((walk_Common.f k bt253.1 bt253.2 1 2).bind fun bt257 => (if bt250.1 = 2 then (if bt250.2.1 = true then (if bt250.2.2 = 0 then (if bt257.1 = 1 then (some (bt257.2 == 0)) else (some false)) else (some false)) else (some false)) else (some false)))))
theorem clerestorylaw1_walkBegun.mono : ∀ k, LeO (clerestorylaw1_walkBegun.f k ) (clerestorylaw1_walkBegun.f (k + 1) ) := by
 intro  k
 unfold clerestorylaw1_walkBegun.f
 repeat' first | with_reducible first | apply walk_Common.mono | apply walk_Step.mono | exact LeO.refl _ | exact LeO.none _ | refine LeO.ite ?_ ?_ | refine LeO.bind ?_ (fun _ => ?_) | (first | apply walk_Common.mono | apply walk_Step.mono | exact LeO.none _ | refine LeO.ite ?_ ?_ | refine LeO.bind ?_ (fun _ => ?_))
set_option maxHeartbeats 8000000 in
set_option maxRecDepth 100000 in
theorem clerestorylaw1_walkBegun.calls (k : Nat)  (r : Bool) (w : World) (h : clerestorylaw1_walkBegun.f k  = some r) :
 Calls Tryd.prog 20 #[] w fun e w' => e = .returned (.bool r) ∧ Below w.heap.size w w' := by
 have HB := aS (Below.refl w.heap.size w)
 have H := h; clear h; unfold clerestorylaw1_walkBegun.f at H
 replace H := iB H
 obtain ⟨⟨t246, t249⟩, A1, H⟩ := H
 try dsimp only at H
 replace H := iB H
 obtain ⟨⟨t250, t251, t252⟩, A2, H⟩ := H
 try dsimp only at H
 replace H := iB H
 obtain ⟨⟨t253, t256⟩, A3, H⟩ := H
 try dsimp only at H
 replace H := iB H
 obtain ⟨⟨t257, t258⟩, A4, H⟩ := H
 try dsimp only at H
 refine iE H ?p5 ?n5 <;> clear H
 case' p5 => intro c5b0 c5b1 H; refine iV H ?p6 ?n6 <;> clear H
 case' p6 => intro c6 H; subst c6; refine iE H ?p7 ?n7 <;> clear H
 case' p7 => intro c7b0 c7b1 H; refine iE H ?p8 ?n8 <;> clear H
 case' p8 => intro c8b0 c8b1 H
 case' n8 => intro c8 c8b0 c8b1 H
 case' n7 => intro c7 c7b0 c7b1 H
 case' n6 => intro c6 H; subst c6
 case' n5 => intro c5 c5b0 c5b1 H
 case p8 =>
  obtain rfl := Option.some.inj H
  go_enter Tryd.func20, Tryd.ntmps20
  go_wp2_with (first | ((with_reducible refine q06 (f := 75) rfl ?_); refine q0l (some 7) rfl rfl Tryd.func75 (by kernel_rfl) rfl #[] rfl zd ?_; (with_reducible refine (clerestorylaw1_oneP.calls  t246 t249 _ A1.out).mono ?_); rintro e w9 ⟨v247, rfl, ho0, hb⟩; refine ⟨_, rfl, ?_⟩; have HO248 := aS (Kd.N_lower (Kd.N_mono (ok' := fun k_ => True) ho0 (fun k_ hk_ => trivial)) (q0h (z6 HB.out))); replace HB := aS (q01 (z6 HB.out) hb); (try clear hb); (try clear hb2); (try clear hk); (try clear hi); (try clear ho0); obtain ⟨Ao10, co10, eo10⟩ := Kd.N_slice HO248.out; subst eo10) | ((with_reducible refine q06 (f := 16) rfl ?_); refine q0l (some 8) rfl rfl Tryd.func16 (by kernel_rfl) rfl #[.agg #[.slice Ao10 t246.length co10, .bool t249], .int .i64 1, .int .i64 1] rfl zd ?_; (with_reducible refine (walk_Step.calls k _ _ t246 t249 1 1 t250 true t252 _ ?side1 ?side2 A2.out).mono ?_); (case side1 => repeat (first | exact (Kd.N_reads' HO248.out).2.2 | (with_reducible refine cA ?_ _) | (with_reducible refine cN ?_ _) | (with_reducible refine cD ?_))); (case side2 => exact (Kd.N_reads' HO248.out).2.1); rintro e w11 ⟨rfl, hb⟩; refine ⟨_, rfl, ?_⟩; replace HO248 := aS (Kd.N_below (by (with_reducible repeat (first | apply nA | apply nN | apply nD)); exact HO248.out) hb); replace HB := aS (q01 (z6 HB.out) hb); (try clear hb); (try clear hb2); (try clear hk); (try clear hi)) | ((with_reducible refine q06 (f := 75) rfl ?_); refine q0l (some 13) rfl rfl Tryd.func75 (by kernel_rfl) rfl #[] rfl zd ?_; (with_reducible refine (clerestorylaw1_oneP.calls  t253 t256 _ A3.out).mono ?_); rintro e w12 ⟨v254, rfl, ho0, hb⟩; refine ⟨_, rfl, ?_⟩; have n0_ := aS (Kd.N_elder' (by (with_reducible repeat (first | apply nA | apply nN | apply nD)); exact HO248.out) (Kd.N_base ho0) hb); have n1_ := aS (Kd.N_lower (Kd.N_mono (ok' := fun k_ => some k_ ≠ (.slice Ao10 t246.length co10 : Value).ownBlock) ho0 (fun k_ hk_ => (Kd.fresh' (Kd.N_lt (by (with_reducible repeat (first | apply nA | apply nN | apply nD)); exact HO248.out)) k_ hk_))) (q0h (z6 HB.out))); have n2_ := aS (q01 (z6 HB.out) hb); clear HO248; clear HB; have HO248 := n0_; have HO255 := n1_; have HB := n2_; clear n0_ n1_ n2_; (try clear hb); (try clear hb2); (try clear hk); (try clear hi); (try clear ho0); obtain ⟨Ao13, co13, eo13⟩ := Kd.N_slice HO255.out; subst eo13) | ((with_reducible refine q06 (f := 23) rfl ?_); refine q0l (some 14) rfl rfl Tryd.func23 (by kernel_rfl) rfl #[.agg #[.slice Ao13 t253.length co13, .bool t256], .int .i64 1, .int .i64 2] rfl zd ?_; (with_reducible refine (walk_Common.calls k _ _ t253 t256 1 2 t257 t258 _ ?side1 ?side2 A4.out).mono ?_); (case side1 => repeat (first | exact (Kd.N_reads' HO255.out).2.2 | (with_reducible refine cA ?_ _) | (with_reducible refine cN ?_ _) | (with_reducible refine cD ?_))); (case side2 => exact (Kd.N_reads' HO255.out).2.1); rintro e w14 ⟨rfl, hb⟩; refine ⟨_, rfl, ?_⟩; replace HO248 := aS (Kd.N_below (by (with_reducible repeat (first | apply nA | apply nN | apply nD)); exact HO248.out) hb); replace HO255 := aS (Kd.N_below (by (with_reducible repeat (first | apply nA | apply nN | apply nD)); exact HO255.out) hb); replace HB := aS (q01 (z6 HB.out) hb); (try clear hb); (try clear hb2); (try clear hk); (try clear hi)))
  go_ret
  exact ⟨by first | rfl | (simp [q04, q03] <;> rfl) | (simp [*, q04, q03] <;> rfl), by repeat (first | (with_reducible first | exact HB.out | apply bA | apply bN | apply bD) | exact HB.out)⟩
 case n8 =>
  obtain rfl := Option.some.inj H
  go_enter Tryd.func20, Tryd.ntmps20
  go_wp2_with (first | ((with_reducible refine q06 (f := 75) rfl ?_); refine q0l (some 7) rfl rfl Tryd.func75 (by kernel_rfl) rfl #[] rfl zd ?_; (with_reducible refine (clerestorylaw1_oneP.calls  t246 t249 _ A1.out).mono ?_); rintro e w15 ⟨v247, rfl, ho0, hb⟩; refine ⟨_, rfl, ?_⟩; have HO248 := aS (Kd.N_lower (Kd.N_mono (ok' := fun k_ => True) ho0 (fun k_ hk_ => trivial)) (q0h (z6 HB.out))); replace HB := aS (q01 (z6 HB.out) hb); (try clear hb); (try clear hb2); (try clear hk); (try clear hi); (try clear ho0); obtain ⟨Ao16, co16, eo16⟩ := Kd.N_slice HO248.out; subst eo16) | ((with_reducible refine q06 (f := 16) rfl ?_); refine q0l (some 8) rfl rfl Tryd.func16 (by kernel_rfl) rfl #[.agg #[.slice Ao16 t246.length co16, .bool t249], .int .i64 1, .int .i64 1] rfl zd ?_; (with_reducible refine (walk_Step.calls k _ _ t246 t249 1 1 t250 true t252 _ ?side1 ?side2 A2.out).mono ?_); (case side1 => repeat (first | exact (Kd.N_reads' HO248.out).2.2 | (with_reducible refine cA ?_ _) | (with_reducible refine cN ?_ _) | (with_reducible refine cD ?_))); (case side2 => exact (Kd.N_reads' HO248.out).2.1); rintro e w17 ⟨rfl, hb⟩; refine ⟨_, rfl, ?_⟩; replace HO248 := aS (Kd.N_below (by (with_reducible repeat (first | apply nA | apply nN | apply nD)); exact HO248.out) hb); replace HB := aS (q01 (z6 HB.out) hb); (try clear hb); (try clear hb2); (try clear hk); (try clear hi)) | ((with_reducible refine q06 (f := 75) rfl ?_); refine q0l (some 13) rfl rfl Tryd.func75 (by kernel_rfl) rfl #[] rfl zd ?_; (with_reducible refine (clerestorylaw1_oneP.calls  t253 t256 _ A3.out).mono ?_); rintro e w18 ⟨v254, rfl, ho0, hb⟩; refine ⟨_, rfl, ?_⟩; have n0_ := aS (Kd.N_elder' (by (with_reducible repeat (first | apply nA | apply nN | apply nD)); exact HO248.out) (Kd.N_base ho0) hb); have n1_ := aS (Kd.N_lower (Kd.N_mono (ok' := fun k_ => some k_ ≠ (.slice Ao16 t246.length co16 : Value).ownBlock) ho0 (fun k_ hk_ => (Kd.fresh' (Kd.N_lt (by (with_reducible repeat (first | apply nA | apply nN | apply nD)); exact HO248.out)) k_ hk_))) (q0h (z6 HB.out))); have n2_ := aS (q01 (z6 HB.out) hb); clear HO248; clear HB; have HO248 := n0_; have HO255 := n1_; have HB := n2_; clear n0_ n1_ n2_; (try clear hb); (try clear hb2); (try clear hk); (try clear hi); (try clear ho0); obtain ⟨Ao19, co19, eo19⟩ := Kd.N_slice HO255.out; subst eo19) | ((with_reducible refine q06 (f := 23) rfl ?_); refine q0l (some 14) rfl rfl Tryd.func23 (by kernel_rfl) rfl #[.agg #[.slice Ao19 t253.length co19, .bool t256], .int .i64 1, .int .i64 2] rfl zd ?_; (with_reducible refine (walk_Common.calls k _ _ t253 t256 1 2 t257 t258 _ ?side1 ?side2 A4.out).mono ?_); (case side1 => repeat (first | exact (Kd.N_reads' HO255.out).2.2 | (with_reducible refine cA ?_ _) | (with_reducible refine cN ?_ _) | (with_reducible refine cD ?_))); (case side2 => exact (Kd.N_reads' HO255.out).2.1); rintro e w20 ⟨rfl, hb⟩; refine ⟨_, rfl, ?_⟩; replace HO248 := aS (Kd.N_below (by (with_reducible repeat (first | apply nA | apply nN | apply nD)); exact HO248.out) hb); replace HO255 := aS (Kd.N_below (by (with_reducible repeat (first | apply nA | apply nN | apply nD)); exact HO255.out) hb); replace HB := aS (q01 (z6 HB.out) hb); (try clear hb); (try clear hb2); (try clear hk); (try clear hi)))
  go_ret
  exact ⟨by first | rfl | (simp [q04, q03] <;> rfl) | (simp [*, q04, q03] <;> rfl), by repeat (first | (with_reducible first | exact HB.out | apply bA | apply bN | apply bD) | exact HB.out)⟩
 case n7 =>
  obtain rfl := Option.some.inj H
  go_enter Tryd.func20, Tryd.ntmps20
  go_wp2_with (first | ((with_reducible refine q06 (f := 75) rfl ?_); refine q0l (some 7) rfl rfl Tryd.func75 (by kernel_rfl) rfl #[] rfl zd ?_; (with_reducible refine (clerestorylaw1_oneP.calls  t246 t249 _ A1.out).mono ?_); rintro e w21 ⟨v247, rfl, ho0, hb⟩; refine ⟨_, rfl, ?_⟩; have HO248 := aS (Kd.N_lower (Kd.N_mono (ok' := fun k_ => True) ho0 (fun k_ hk_ => trivial)) (q0h (z6 HB.out))); replace HB := aS (q01 (z6 HB.out) hb); (try clear hb); (try clear hb2); (try clear hk); (try clear hi); (try clear ho0); obtain ⟨Ao22, co22, eo22⟩ := Kd.N_slice HO248.out; subst eo22) | ((with_reducible refine q06 (f := 16) rfl ?_); refine q0l (some 8) rfl rfl Tryd.func16 (by kernel_rfl) rfl #[.agg #[.slice Ao22 t246.length co22, .bool t249], .int .i64 1, .int .i64 1] rfl zd ?_; (with_reducible refine (walk_Step.calls k _ _ t246 t249 1 1 t250 true t252 _ ?side1 ?side2 A2.out).mono ?_); (case side1 => repeat (first | exact (Kd.N_reads' HO248.out).2.2 | (with_reducible refine cA ?_ _) | (with_reducible refine cN ?_ _) | (with_reducible refine cD ?_))); (case side2 => exact (Kd.N_reads' HO248.out).2.1); rintro e w23 ⟨rfl, hb⟩; refine ⟨_, rfl, ?_⟩; replace HO248 := aS (Kd.N_below (by (with_reducible repeat (first | apply nA | apply nN | apply nD)); exact HO248.out) hb); replace HB := aS (q01 (z6 HB.out) hb); (try clear hb); (try clear hb2); (try clear hk); (try clear hi)) | ((with_reducible refine q06 (f := 75) rfl ?_); refine q0l (some 13) rfl rfl Tryd.func75 (by kernel_rfl) rfl #[] rfl zd ?_; (with_reducible refine (clerestorylaw1_oneP.calls  t253 t256 _ A3.out).mono ?_); rintro e w24 ⟨v254, rfl, ho0, hb⟩; refine ⟨_, rfl, ?_⟩; have n0_ := aS (Kd.N_elder' (by (with_reducible repeat (first | apply nA | apply nN | apply nD)); exact HO248.out) (Kd.N_base ho0) hb); have n1_ := aS (Kd.N_lower (Kd.N_mono (ok' := fun k_ => some k_ ≠ (.slice Ao22 t246.length co22 : Value).ownBlock) ho0 (fun k_ hk_ => (Kd.fresh' (Kd.N_lt (by (with_reducible repeat (first | apply nA | apply nN | apply nD)); exact HO248.out)) k_ hk_))) (q0h (z6 HB.out))); have n2_ := aS (q01 (z6 HB.out) hb); clear HO248; clear HB; have HO248 := n0_; have HO255 := n1_; have HB := n2_; clear n0_ n1_ n2_; (try clear hb); (try clear hb2); (try clear hk); (try clear hi); (try clear ho0); obtain ⟨Ao25, co25, eo25⟩ := Kd.N_slice HO255.out; subst eo25) | ((with_reducible refine q06 (f := 23) rfl ?_); refine q0l (some 14) rfl rfl Tryd.func23 (by kernel_rfl) rfl #[.agg #[.slice Ao25 t253.length co25, .bool t256], .int .i64 1, .int .i64 2] rfl zd ?_; (with_reducible refine (walk_Common.calls k _ _ t253 t256 1 2 t257 t258 _ ?side1 ?side2 A4.out).mono ?_); (case side1 => repeat (first | exact (Kd.N_reads' HO255.out).2.2 | (with_reducible refine cA ?_ _) | (with_reducible refine cN ?_ _) | (with_reducible refine cD ?_))); (case side2 => exact (Kd.N_reads' HO255.out).2.1); rintro e w26 ⟨rfl, hb⟩; refine ⟨_, rfl, ?_⟩; replace HO248 := aS (Kd.N_below (by (with_reducible repeat (first | apply nA | apply nN | apply nD)); exact HO248.out) hb); replace HO255 := aS (Kd.N_below (by (with_reducible repeat (first | apply nA | apply nN | apply nD)); exact HO255.out) hb); replace HB := aS (q01 (z6 HB.out) hb); (try clear hb); (try clear hb2); (try clear hk); (try clear hi)))
  go_ret
  exact ⟨by first | rfl | (simp [q04, q03] <;> rfl) | (simp [*, q04, q03] <;> rfl), by repeat (first | (with_reducible first | exact HB.out | apply bA | apply bN | apply bD) | exact HB.out)⟩
 case n6 =>
  obtain rfl := Option.some.inj H
  go_enter Tryd.func20, Tryd.ntmps20
  go_wp2_with (first | ((with_reducible refine q06 (f := 75) rfl ?_); refine q0l (some 7) rfl rfl Tryd.func75 (by kernel_rfl) rfl #[] rfl zd ?_; (with_reducible refine (clerestorylaw1_oneP.calls  t246 t249 _ A1.out).mono ?_); rintro e w27 ⟨v247, rfl, ho0, hb⟩; refine ⟨_, rfl, ?_⟩; have HO248 := aS (Kd.N_lower (Kd.N_mono (ok' := fun k_ => True) ho0 (fun k_ hk_ => trivial)) (q0h (z6 HB.out))); replace HB := aS (q01 (z6 HB.out) hb); (try clear hb); (try clear hb2); (try clear hk); (try clear hi); (try clear ho0); obtain ⟨Ao28, co28, eo28⟩ := Kd.N_slice HO248.out; subst eo28) | ((with_reducible refine q06 (f := 16) rfl ?_); refine q0l (some 8) rfl rfl Tryd.func16 (by kernel_rfl) rfl #[.agg #[.slice Ao28 t246.length co28, .bool t249], .int .i64 1, .int .i64 1] rfl zd ?_; (with_reducible refine (walk_Step.calls k _ _ t246 t249 1 1 t250 false t252 _ ?side1 ?side2 A2.out).mono ?_); (case side1 => repeat (first | exact (Kd.N_reads' HO248.out).2.2 | (with_reducible refine cA ?_ _) | (with_reducible refine cN ?_ _) | (with_reducible refine cD ?_))); (case side2 => exact (Kd.N_reads' HO248.out).2.1); rintro e w29 ⟨rfl, hb⟩; refine ⟨_, rfl, ?_⟩; replace HO248 := aS (Kd.N_below (by (with_reducible repeat (first | apply nA | apply nN | apply nD)); exact HO248.out) hb); replace HB := aS (q01 (z6 HB.out) hb); (try clear hb); (try clear hb2); (try clear hk); (try clear hi)) | ((with_reducible refine q06 (f := 75) rfl ?_); refine q0l (some 13) rfl rfl Tryd.func75 (by kernel_rfl) rfl #[] rfl zd ?_; (with_reducible refine (clerestorylaw1_oneP.calls  t253 t256 _ A3.out).mono ?_); rintro e w30 ⟨v254, rfl, ho0, hb⟩; refine ⟨_, rfl, ?_⟩; have n0_ := aS (Kd.N_elder' (by (with_reducible repeat (first | apply nA | apply nN | apply nD)); exact HO248.out) (Kd.N_base ho0) hb); have n1_ := aS (Kd.N_lower (Kd.N_mono (ok' := fun k_ => some k_ ≠ (.slice Ao28 t246.length co28 : Value).ownBlock) ho0 (fun k_ hk_ => (Kd.fresh' (Kd.N_lt (by (with_reducible repeat (first | apply nA | apply nN | apply nD)); exact HO248.out)) k_ hk_))) (q0h (z6 HB.out))); have n2_ := aS (q01 (z6 HB.out) hb); clear HO248; clear HB; have HO248 := n0_; have HO255 := n1_; have HB := n2_; clear n0_ n1_ n2_; (try clear hb); (try clear hb2); (try clear hk); (try clear hi); (try clear ho0); obtain ⟨Ao31, co31, eo31⟩ := Kd.N_slice HO255.out; subst eo31) | ((with_reducible refine q06 (f := 23) rfl ?_); refine q0l (some 14) rfl rfl Tryd.func23 (by kernel_rfl) rfl #[.agg #[.slice Ao31 t253.length co31, .bool t256], .int .i64 1, .int .i64 2] rfl zd ?_; (with_reducible refine (walk_Common.calls k _ _ t253 t256 1 2 t257 t258 _ ?side1 ?side2 A4.out).mono ?_); (case side1 => repeat (first | exact (Kd.N_reads' HO255.out).2.2 | (with_reducible refine cA ?_ _) | (with_reducible refine cN ?_ _) | (with_reducible refine cD ?_))); (case side2 => exact (Kd.N_reads' HO255.out).2.1); rintro e w32 ⟨rfl, hb⟩; refine ⟨_, rfl, ?_⟩; replace HO248 := aS (Kd.N_below (by (with_reducible repeat (first | apply nA | apply nN | apply nD)); exact HO248.out) hb); replace HO255 := aS (Kd.N_below (by (with_reducible repeat (first | apply nA | apply nN | apply nD)); exact HO255.out) hb); replace HB := aS (q01 (z6 HB.out) hb); (try clear hb); (try clear hb2); (try clear hk); (try clear hi)))
  go_ret
  exact ⟨by first | rfl | (simp [q04, q03] <;> rfl) | (simp [*, q04, q03] <;> rfl), by repeat (first | (with_reducible first | exact HB.out | apply bA | apply bN | apply bD) | exact HB.out)⟩
 case n5 =>
  obtain rfl := Option.some.inj H
  go_enter Tryd.func20, Tryd.ntmps20
  go_wp2_with (first | ((with_reducible refine q06 (f := 75) rfl ?_); refine q0l (some 7) rfl rfl Tryd.func75 (by kernel_rfl) rfl #[] rfl zd ?_; (with_reducible refine (clerestorylaw1_oneP.calls  t246 t249 _ A1.out).mono ?_); rintro e w33 ⟨v247, rfl, ho0, hb⟩; refine ⟨_, rfl, ?_⟩; have HO248 := aS (Kd.N_lower (Kd.N_mono (ok' := fun k_ => True) ho0 (fun k_ hk_ => trivial)) (q0h (z6 HB.out))); replace HB := aS (q01 (z6 HB.out) hb); (try clear hb); (try clear hb2); (try clear hk); (try clear hi); (try clear ho0); obtain ⟨Ao34, co34, eo34⟩ := Kd.N_slice HO248.out; subst eo34) | ((with_reducible refine q06 (f := 16) rfl ?_); refine q0l (some 8) rfl rfl Tryd.func16 (by kernel_rfl) rfl #[.agg #[.slice Ao34 t246.length co34, .bool t249], .int .i64 1, .int .i64 1] rfl zd ?_; (with_reducible refine (walk_Step.calls k _ _ t246 t249 1 1 t250 t251 t252 _ ?side1 ?side2 A2.out).mono ?_); (case side1 => repeat (first | exact (Kd.N_reads' HO248.out).2.2 | (with_reducible refine cA ?_ _) | (with_reducible refine cN ?_ _) | (with_reducible refine cD ?_))); (case side2 => exact (Kd.N_reads' HO248.out).2.1); rintro e w35 ⟨rfl, hb⟩; refine ⟨_, rfl, ?_⟩; replace HO248 := aS (Kd.N_below (by (with_reducible repeat (first | apply nA | apply nN | apply nD)); exact HO248.out) hb); replace HB := aS (q01 (z6 HB.out) hb); (try clear hb); (try clear hb2); (try clear hk); (try clear hi)) | ((with_reducible refine q06 (f := 75) rfl ?_); refine q0l (some 13) rfl rfl Tryd.func75 (by kernel_rfl) rfl #[] rfl zd ?_; (with_reducible refine (clerestorylaw1_oneP.calls  t253 t256 _ A3.out).mono ?_); rintro e w36 ⟨v254, rfl, ho0, hb⟩; refine ⟨_, rfl, ?_⟩; have n0_ := aS (Kd.N_elder' (by (with_reducible repeat (first | apply nA | apply nN | apply nD)); exact HO248.out) (Kd.N_base ho0) hb); have n1_ := aS (Kd.N_lower (Kd.N_mono (ok' := fun k_ => some k_ ≠ (.slice Ao34 t246.length co34 : Value).ownBlock) ho0 (fun k_ hk_ => (Kd.fresh' (Kd.N_lt (by (with_reducible repeat (first | apply nA | apply nN | apply nD)); exact HO248.out)) k_ hk_))) (q0h (z6 HB.out))); have n2_ := aS (q01 (z6 HB.out) hb); clear HO248; clear HB; have HO248 := n0_; have HO255 := n1_; have HB := n2_; clear n0_ n1_ n2_; (try clear hb); (try clear hb2); (try clear hk); (try clear hi); (try clear ho0); obtain ⟨Ao37, co37, eo37⟩ := Kd.N_slice HO255.out; subst eo37) | ((with_reducible refine q06 (f := 23) rfl ?_); refine q0l (some 14) rfl rfl Tryd.func23 (by kernel_rfl) rfl #[.agg #[.slice Ao37 t253.length co37, .bool t256], .int .i64 1, .int .i64 2] rfl zd ?_; (with_reducible refine (walk_Common.calls k _ _ t253 t256 1 2 t257 t258 _ ?side1 ?side2 A4.out).mono ?_); (case side1 => repeat (first | exact (Kd.N_reads' HO255.out).2.2 | (with_reducible refine cA ?_ _) | (with_reducible refine cN ?_ _) | (with_reducible refine cD ?_))); (case side2 => exact (Kd.N_reads' HO255.out).2.1); rintro e w38 ⟨rfl, hb⟩; refine ⟨_, rfl, ?_⟩; replace HO248 := aS (Kd.N_below (by (with_reducible repeat (first | apply nA | apply nN | apply nD)); exact HO248.out) hb); replace HO255 := aS (Kd.N_below (by (with_reducible repeat (first | apply nA | apply nN | apply nD)); exact HO255.out) hb); replace HB := aS (q01 (z6 HB.out) hb); (try clear hb); (try clear hb2); (try clear hk); (try clear hi)))
  go_ret
  exact ⟨by first | rfl | (simp [q04, q03] <;> rfl) | (simp [*, q04, q03] <;> rfl), by repeat (first | (with_reducible first | exact HB.out | apply bA | apply bN | apply bD) | exact HB.out)⟩
mutual
def clerestoryref1_Below.l0 : Nat → Int → List Int → Int → List (S43) → Bool → Option (List Int)
 | 0, _, _, _, _, _ => none
 | k + 1, x1, x5, x6, x260000, x260001 => if 0 ≤ x1 then (if x1 < (x260000.length : Int) then (if x6 < (((q00 x260000 x1).f5).length : Int) then (if 0 ≤ x6 then ((clerestoryref1_Below.f k x260000 x260001 (rd ((q00 x260000 x1).f5) x6)).bind fun t266 => (if x5.length + t266.length < 17592186044416 then (clerestoryref1_Below.l0 k x1 (x5 ++ t266) (wrap64 (x6 + 1)) x260000 x260001) else (none))) else (none)) else (some x5)) else (none)) else (none)
def clerestoryref1_Below.f : Nat → List (S43) → Bool → Int → Option (List Int)
 | 0, _, _, _ => none
 | k + 1, l0_0, a0_1, a1 => clerestoryref1_Below.l0 k a1 (([a1] : List Int)) 0 l0_0 a0_1
end
def clerestoryref1_Below.T5 : Bool × List (List Nat × List Nat) := (true, [([], []), ([], []), ([], []), ([2], [2]), ([], []), ([3, 4], [3, 4]), ([5], [5]), ([6], [6]), ([], []), ([7, 8], [7, 8]), ([9], [9]), ([1, 10], [1, 10]), ([0, 11, 11], [0, 11]), ([12, 12, 0, 1, 2, 3, 4, 5, 6, 7, 8, 9, 10, 11, 12], [0, 12])])
def clerestoryref1_Below.B5 : List Nat := [0, 0, 0, 4, 0, 28, 60, 124, 0, 508, 1020, 2046, 4095, 8191]
theorem clerestoryref1_Below.tab5 : rtab .any (opsOf Tryd.f25 5) = clerestoryref1_Below.T5 := by kernel_rfl
theorem clerestoryref1_Below.bits5 : waitsOk clerestoryref1_Below.T5.2 clerestoryref1_Below.B5 = true := by kernel_rfl
set_option maxHeartbeats 8000000 in
set_option maxRecDepth 100000 in
theorem clerestoryref1_Below.calls (k : Nat) : ∀ (A0_0 : Option Addr) (c0_0 : Nat) (l0_0 : List (S43)) (a0_1 : Bool) (a1 : Int) (r : List Int) (w : World) (hr0_0 : Kd.C k43 w A0_0 l0_0.length l0_0) (hc0_0 : l0_0.length ≤ c0_0) (h : clerestoryref1_Below.f k l0_0 a0_1 a1 = some r),
 Calls Tryd.prog 25 #[.agg #[.slice A0_0 l0_0.length c0_0, .bool a0_1], .int .i64 a1] w fun e w' => ∃ v0_ : Value, e = .returned (v0_) ∧ Kd.R (Kd.int .i64) 3 w' w.heap.size (fun _ => True) v0_ r ∧ Below w.heap.size w w' := by
 induction k using Nat.strongRecOn with
 | _ k ih =>
 intro A0_0 c0_0 l0_0 a0_1 a1 r w hr0_0 hc0_0 h
 cases k with
 | zero => exact absurd h (by simp [clerestoryref1_Below.f])
 | succ k =>
 simp only [clerestoryref1_Below.f] at h
 have hu24 := Tryd.underlying24
 have HR0_0 := aS hr0_0
 have HC0_0 := aS hc0_0
 clear hr0_0 hc0_0
 have HB := aS (Below.refl w.heap.size w)
 have H := h; clear h; unfold clerestoryref1_Below.f at H
 obtain ⟨y260, hy260⟩ : ∃ y_ : List Int, y_ = (([a1] : List Int)) := ⟨_, rfl⟩
 replace H : (clerestoryref1_Below.l0 k a1 y260 0 l0_0 a0_1) = some r := by first | (rw [hy260]; with_reducible exact H) | (have H2_ := (Option.bind_some _ _).symm.trans H; rw [hy260]; with_reducible exact H2_) | (have H2_ := (Option.bind_some _ _).symm.trans H; with_reducible exact H2_) | with_reducible exact H | (rw [hy260]; exact H) | exact H
 have Ny260 := aS hy260
 clear hy260
 have H' := aS H
 clear H
 go_enter Tryd.func25, Tryd.ntmps25
 go_wp2_with (first | ((with_reducible refine q0g (N := 2) rfl ?_); refine box0 rfl (N := 2) rfl (cs := #[.slice A0_0 l0_0.length c0_0, .bool a0_1]) (t := 24) zi (z6 HB.out) ?_; clear HB; intro gb259 w3 BK259 GW259 HB; have GE259 := GW259) | ((with_reducible refine q0g (N := 8) rfl ?_); refine Kd.R_lit (Kd.int .i64) _ 3 ?hg (N := 8) ?hd (xs := ([a1] : List Int)) (inner := [.int .i64 a1]) (ok := fun _ => True) (okp := fun _ => True) ?hr ?hp (fun _ hk => hk) trivial (Below.refl _ _) (Nat.le_refl _) (by simp) ?_; (case hd => rfl); (case hg => rfl); (case hr => first | (go_simp; done) | (go_simp; rfl)); (case hp => exact (Reps.one (show Kd.M (Kd.int .i64) _ _ _ a1 [.int .i64 a1] from rfl) (Reps.none _ _))); intro v261 w4 ho5 hb hg_ hnew_; clear hg_ hnew_; (first | rw [← Ny260.out] at ho5 | (simp only [Int.reduceToNat] at ho5; rw [← Ny260.out] at ho5)); have HO262 := aS (Kd.R_lower ho5 (q0h (z1 HB.out GE259.out))); replace BK259 := aS (q07 (g := gb259) (o := .cells #[.slice A0_0 l0_0.length c0_0, .bool a0_1] 24 (0, 0)) (z8 BK259.out) hb); replace HB := aS (q01 (z1 HB.out GE259.out) hb); clear hb ho5))
 go_loopg [5, 6] k (fun kq v5 v6 w' => ∃ (x5_1 : List Int) (x6_1 : Int), v6 = .int .i64 x6_1 ∧ Aside0 (clerestoryref1_Below.l0 kq a1 x5_1 x6_1 l0_0 a0_1 = some r) ∧ Aside0 (kq ≤ k) ∧ Aside0 (Kd.R (Kd.int .i64) 3 w' w.heap.size (fun _ => True) v5 x5_1) ∧ Aside0 (w'.heap[gb259]? = some (.cells #[(.slice A0_0 l0_0.length c0_0), .bool a0_1] 24 (0, 0))) ∧ Aside0 (Below w.heap.size w w'))
 case atStart => exact ⟨(y260), (0), zj, H', ⟨Nat.le_refl _⟩, ⟨by (with_reducible repeat (first | apply rA | apply rN | apply rD)); exact HO262.out⟩, ⟨by (with_reducible repeat (first | refine kN ?_ _ | refine kD ?_ | refine kA ?_ _)); exact BK259.out⟩, ⟨by repeat (first | (with_reducible first | exact HB.out | apply bA | apply bN | apply bD | refine bS ?_ GE259.out) | exact HB.out)⟩⟩
 case round =>
  clear H'
  obtain ⟨x5_1, x6_1, rfl, HA, HK1, HO_5, BK259, HB⟩ := hrel
  cases gk with
  | zero => exact absurd HA.out (by simp [clerestoryref1_Below.l0])
  | succ k1 =>
   have H := HA.out
   clear HA
   simp only [clerestoryref1_Below.l0] at H
   refine iLp H ?_; clear H; intro c6b0 H
   refine iTp H ?_; clear H; intro c7b0 H
   refine iT H ?p8 ?n8 <;> clear H
   case' p8 => intro c8b0 H; refine iLp H ?_; clear H; intro c9b0 H; replace H := iB H; obtain ⟨t266, A10, H⟩ := H; refine iGp H ?_; clear H; intro c11 H
   case' n8 => intro c8b0 H
   case p8 =>
    have LMc11 := aS c11
    clear c11
    obtain ⟨y269, hy269⟩ : ∃ y_ : List Int, y_ = (x5_1 ++ t266) := ⟨_, rfl⟩
    replace H : (clerestoryref1_Below.l0 k1 a1 y269 (wrap64 (x6_1 + 1)) l0_0 a0_1) = some r := by first | (rw [hy269]; with_reducible exact H) | (have H2_ := (Option.bind_some _ _).symm.trans H; rw [hy269]; with_reducible exact H2_) | (have H2_ := (Option.bind_some _ _).symm.trans H; with_reducible exact H2_) | with_reducible exact H | (rw [hy269]; exact H) | exact H
    have Ny269 := aS hy269
    clear hy269
    have H' := aS H
    clear H
    obtain ⟨hczL_0, hczL_1, hfzL_0, hfzL_1⟩ := bk2 BK259.out
    obtain ⟨ad263, A263_2, c263_2, A263_5, c263_5, e263, hx263_0, hx263_1, hx263_2, hx263_3, hx263_4, hx263_5, HC263_2, HR263_2, HC263_5, HR263_5, p263, q263⟩ := q0m HB.out HR0_0.out a1 za za
    cases e263
    try go_wp2
    have n0_ := aS (Kd.R_drew HO_5.out)
    have n1_ := aS (blk_drew BK259.out)
    have n2_ := aS (q0i HB.out)
    clear HO_5
    clear BK259
    clear HB
    have HO_5 := n0_
    have BK259 := n1_
    have HB := n2_
    clear n0_ n1_ n2_
    have p264 : 0 ≤ (a1 : Int) := od za
    have q264 : a1 < (l0_0.length : Int) := od za
    obtain ⟨ad264, A264_2, c264_2, A264_5, c264_5, e264, hx264_0, hx264_1, hx264_2, hx264_3, hx264_4, hx264_5, hl264_2, hi264_2, hl264_5, hi264_5⟩ := at_T43 HR0_0.out a1 p264 q264
    have hw264_5 := hx264_5
    have hw264_4 := hx264_4
    have hw264_3 := hx264_3
    have hw264_2 := hx264_2
    have hw264_1 := hx264_1
    have hw264_0 := hx264_0
    obtain rfl : ad263 = ad264 := (by injection e264)
    replace hx264_0 := q09 HB.out hx264_0
    replace hx264_1 := q09 HB.out hx264_1
    replace hx264_2 := q09 HB.out hx264_2
    replace hx264_3 := q09 HB.out hx264_3
    replace hx264_4 := q09 HB.out hx264_4
    replace hx264_5 := q09 HB.out hx264_5
    have HR264_2 := aS hi264_2
    have HC264_2 := aS hl264_2
    clear hi264_2 hl264_2
    have HR264_5 := aS hi264_5
    have HC264_5 := aS hl264_5
    clear hi264_5 hl264_5
    replace p264 := eq_true p264
    replace q264 := eq_true q264
    have p265 : 0 ≤ (x6_1 : Int) := od za
    have q265 : x6_1 < (((q00 l0_0 a1).f5).length : Int) := od za
    obtain ⟨ad265, e265, hx265_0⟩ := Kd.at_int HR264_5.out x6_1 p265 q265
    have hw265_0 := hx265_0
    cases e265
    replace hx265_0 := q09 HB.out hx265_0
    replace p265 := eq_true p265
    replace q265 := eq_true q265
    refine start_ (n := 14) (S := fun w' => w'.cell? ⟨gb259, 0, none⟩ = some (.slice (some ad263) l0_0.length c0_0) ∧ w'.cell? ⟨gb259, 1, none⟩ = some (.bool a0_1) ∧ w'.cell? (ad263.add ((a1).toNat * 6)) = some (.int .i64 ((q00 l0_0 a1).f0)) ∧ w'.cell? ⟨(ad263.add ((a1).toNat * 6)).block, (ad263.add ((a1).toNat * 6)).off + 1, none⟩ = some (.string ((q00 l0_0 a1).f1)) ∧ w'.cell? ⟨(ad263.add ((a1).toNat * 6)).block, (ad263.add ((a1).toNat * 6)).off + 2, none⟩ = some (.slice A264_2 ((q00 l0_0 a1).f2).length c264_2) ∧ w'.cell? ⟨(ad263.add ((a1).toNat * 6)).block, (ad263.add ((a1).toNat * 6)).off + 3, none⟩ = some (.string ((q00 l0_0 a1).f3)) ∧ w'.cell? ⟨(ad263.add ((a1).toNat * 6)).block, (ad263.add ((a1).toNat * 6)).off + 4, none⟩ = some (.int .i64 ((q00 l0_0 a1).f4)) ∧ w'.cell? ⟨(ad263.add ((a1).toNat * 6)).block, (ad263.add ((a1).toNat * 6)).off + 5, none⟩ = some (.slice (some ad265) ((q00 l0_0 a1).f5).length c264_5) ∧ w'.cell? (ad265.add (x6_1).toNat) = some (.int .i64 (rd ((q00 l0_0 a1).f5) x6_1))) (ds := []) #[false, false, false, false, false, false, false, false, false, false, false, false, false, false] (by kernel_rfl) rfl rfl ⟨(q05 BK259.out 0).trans rfl, (q05 BK259.out 1).trans rfl, ((HB.out.cell (World.block_lt_of_cell? w _ hw264_0)).trans hw264_0), ((HB.out.cell (World.block_lt_of_cell? w _ hw264_1)).trans hw264_1), ((HB.out.cell (World.block_lt_of_cell? w _ hw264_2)).trans hw264_2), ((HB.out.cell (World.block_lt_of_cell? w _ hw264_3)).trans hw264_3), ((HB.out.cell (World.block_lt_of_cell? w _ hw264_4)).trans hw264_4), ((HB.out.cell (World.block_lt_of_cell? w _ hw264_5)).trans hw264_5), ((HB.out.cell (World.block_lt_of_cell? w _ hw265_0)).trans hw265_0)⟩ (fun hHeld => ?_); refine with_tabW clerestoryref1_Below.tab5 clerestoryref1_Below.bits5 (fun HT_ HW_ => ?_)
    generalize wr.drew = w13 at HO_5 BK259 HB HR264_2 HR264_5 hx264_0 hx264_1 hx264_2 hx264_3 hx264_4 hx264_5 hx265_0 hHeld ⊢
    refine q18 (i := 0) (N := some 20) (v := ?_) (a' := ?_) #[true, false, false, false, false, false, false, false, false, false, false, false, false, false] rfl rfl (q0x HT_.out (by kernel_rfl)) (fun _ _ _ h => h) (Or.inl ⟨by rfl, ?_⟩) ?_ ?_
    rotate_left
    ·intro w'
     go_simp
     with_reducible rfl
    rotate_left
    ·simp only [Act.put, s1, s2, s3, q0p, q0r]
     rfl
    refine q18 (i := 2) (N := some 22) (v := ?_) (a' := ?_) #[true, false, true, false, false, false, false, false, false, false, false, false, false, false] rfl rfl (q0x HT_.out (by kernel_rfl)) (fun _ _ _ h => h) (Or.inl ⟨by rfl, ?_⟩) ?_ ?_
    rotate_left
    ·intro w'
     go_simp
     with_reducible rfl
    rotate_left
    ·simp only [Act.put, s1, s2, s3, q0p, q0r]
     rfl
    refine q18 (i := 4) (N := some 24) (v := ?_) (a' := ?_) #[true, false, true, false, true, false, false, false, false, false, false, false, false, false] rfl rfl (q0x HT_.out (by kernel_rfl)) (fun _ _ _ h => h) (Or.inl ⟨by rfl, ?_⟩) ?_ ?_
    rotate_left
    ·intro w'
     go_simp
     with_reducible rfl
    rotate_left
    ·simp only [Act.put, s1, s2, s3, q0p, q0r]
     rfl
    refine q18 (i := 8) (N := some 28) (v := ?_) (a' := ?_) #[true, false, true, false, true, false, false, false, true, false, false, false, false, false] rfl rfl (q0x HT_.out (by kernel_rfl)) (fun _ _ _ h => h) (Or.inl ⟨by rfl, ?_⟩) ?_ ?_
    rotate_left
    ·intro w'
     go_simp
     with_reducible rfl
    rotate_left
    ·simp only [Act.put, s1, s2, s3, q0p, q0r]
     rfl
    refine take_ (i := 1) (N := some 21) (v := ?_) (a' := ?_) #[true, true, true, false, true, false, false, false, true, false, false, false, false, false] rfl rfl (take_ofW HT_.out HW_.out (by kernel_rfl)) (fun _ _ _ h => h) (Or.inl ⟨by rfl, ?_⟩) hHeld ?_ ?_
    rotate_left
    ·rintro w' ⟨s0, s1, s2, s3, s4, s5, s6, s7, s8⟩
     go_simp
     with_reducible rfl
    rotate_left
    ·simp only [Act.put, s1, s2, s3, q0p, q0r]
     rfl
    refine take_ (i := 3) (N := some 23) (v := ?_) (a' := ?_) #[true, true, true, true, true, false, false, false, true, false, false, false, false, false] rfl rfl (take_ofW HT_.out HW_.out (by kernel_rfl)) (fun _ _ _ h => h) (Or.inl ⟨by rfl, ?_⟩) hHeld ?_ ?_
    rotate_left
    ·rintro w' ⟨s0, s1, s2, s3, s4, s5, s6, s7, s8⟩
     go_simp
     with_reducible rfl
    rotate_left
    ·simp only [Act.put, s1, s2, s3, q0p, q0r]
     rfl
    refine q18 (i := 5) (N := some 25) (v := ?_) (a' := ?_) #[true, true, true, true, true, true, false, false, true, false, false, false, false, false] rfl rfl (q0x HT_.out (by kernel_rfl)) (fun _ _ _ h => h) (Or.inl ⟨by rfl, ?_⟩) ?_ ?_
    rotate_left
    ·intro w'
     go_simp
     with_reducible rfl
    rotate_left
    ·simp only [Act.put, s1, s2, s3, q0p, q0r]
     rfl
    refine q18 (i := 6) (N := some 26) (v := ?_) (a' := ?_) #[true, true, true, true, true, true, true, false, true, false, false, false, false, false] rfl rfl (q0x HT_.out (by kernel_rfl)) (fun _ _ _ h => h) (Or.inl ⟨by rfl, ?_⟩) ?_ ?_
    rotate_left
    ·intro w'
     go_simp
     with_reducible rfl
    rotate_left
    ·simp only [Act.put, s1, s2, s3, q0p, q0r]
     rfl
    refine take_ (i := 7) (N := some 27) (v := ?_) (a' := ?_) #[true, true, true, true, true, true, true, true, true, false, false, false, false, false] rfl rfl (take_ofW HT_.out HW_.out (by kernel_rfl)) (fun _ _ _ h => h) (Or.inl ⟨by rfl, ?_⟩) hHeld ?_ ?_
    rotate_left
    ·rintro w' ⟨s0, s1, s2, s3, s4, s5, s6, s7, s8⟩
     go_simp
     with_reducible rfl
    rotate_left
    ·simp only [Act.put, s1, s2, s3, q0p, q0r]
     rfl
    refine q18 (i := 9) (N := some 29) (v := ?_) (a' := ?_) #[true, true, true, true, true, true, true, true, true, true, false, false, false, false] rfl rfl (q0x HT_.out (by kernel_rfl)) (fun _ _ _ h => h) (Or.inl ⟨by rfl, ?_⟩) ?_ ?_
    rotate_left
    ·intro w'
     go_simp
     with_reducible rfl
    rotate_left
    ·simp only [Act.put, s1, s2, s3, q0p, q0r]
     rfl
    refine take_ (i := 10) (N := some 30) (v := ?_) (a' := ?_) #[true, true, true, true, true, true, true, true, true, true, true, false, false, false] rfl rfl (take_ofW HT_.out HW_.out (by kernel_rfl)) (fun _ _ _ h => h) (Or.inl ⟨by rfl, ?_⟩) hHeld ?_ ?_
    rotate_left
    ·rintro w' ⟨s0, s1, s2, s3, s4, s5, s6, s7, s8⟩
     go_simp
     with_reducible rfl
    rotate_left
    ·simp only [Act.put, s1, s2, s3, q0p, q0r]
     rfl
    refine one_ (i := 11) (N := some 31) #[true, true, true, true, true, true, true, true, true, true, true, true, false, false] rfl rfl (one_of HT_.out (by kernel_rfl)) (by decide) (fun K hK => ?_)
    refine goes_ Tryd.func25 (by kernel_rfl) rfl #[.agg #[.slice (some ad263) l0_0.length c0_0, .bool a0_1], .int .i64 (rd ((q00 l0_0 a1).f5) x6_1)] (by rfl) rfl rfl zd ?_
    with_reducible refine (ih k1 (by have := HK1.out; omega) _ _ l0_0 a0_1 (rd ((q00 l0_0 a1).f5) x6_1) t266 _ ?side1 ?side2 A10.out).mono ?_
    (case side1 => repeat (first | exact (Kd.C_below HR0_0.out HB.out) | (with_reducible refine cA ?_ _) | (with_reducible refine cN ?_ _) | (with_reducible refine cD ?_)))
    (case side2 => exact HC0_0.out)
    rintro e w14 ⟨v267, rfl, ho0, hb⟩
    refine ⟨_, rfl, ?_⟩
    have n0_ := aS (Kd.R_elder' (zg HO_5.out) (Kd.R_base ho0) hb)
    have n1_ := aS (Kd.R_lower (Kd.R_new' ho0 (Kd.R_lt (zg HO_5.out))) (q0h (z1 HB.out GE259.out)))
    have n2_ := aS (q07 (g := gb259) (o := .cells #[.slice (some ad263) l0_0.length c0_0, .bool a0_1] 24 (0, 0)) (z8 BK259.out) hb)
    have n3_ := aS (q01 (z1 HB.out GE259.out) hb)
    clear HO_5
    clear BK259
    clear HB
    have HO_5 := n0_
    have HO268 := n1_
    have BK259 := n2_
    have HB := n3_
    clear n0_ n1_ n2_ n3_
    (try clear hb)
    (try clear hb2)
    (try clear hk)
    (try clear hi)
    (try clear ho0)
    obtain ⟨Ao16, co16, eo16⟩ := Kd.R_slice HO268.out
    (first | subst eo16 | (injection eo16 with f1_ f2_ f3_; have f4_ := f1_.symm; have f5_ := f3_.symm; clear f1_ f2_ f3_; subst f4_; subst f5_))
    refine hK.out _ _ ⟨(q05 BK259.out 0).trans rfl, (q05 BK259.out 1).trans rfl, ((HB.out.cell (World.block_lt_of_cell? w _ hw264_0)).trans hw264_0), ((HB.out.cell (World.block_lt_of_cell? w _ hw264_1)).trans hw264_1), ((HB.out.cell (World.block_lt_of_cell? w _ hw264_2)).trans hw264_2), ((HB.out.cell (World.block_lt_of_cell? w _ hw264_3)).trans hw264_3), ((HB.out.cell (World.block_lt_of_cell? w _ hw264_4)).trans hw264_4), ((HB.out.cell (World.block_lt_of_cell? w _ hw264_5)).trans hw264_5), ((HB.out.cell (World.block_lt_of_cell? w _ hw265_0)).trans hw265_0)⟩ (fun hHeld => ?_)
    clear hK K
    refine norm_ (a' := ?_) ?_ ?_
    rotate_left
    ·show Act.put _ (some 31) _ = _
     simp only [Act.put, s1, s2, s3, q0p, q0r]
     rfl
    refine one_ (i := 12) (N := some 32) #[true, true, true, true, true, true, true, true, true, true, true, true, true, false] rfl rfl (one_of HT_.out (by kernel_rfl)) (by decide) (fun K hK => ?_)
    refine Kd.R_append_rows_step (Kd.int .i64) (w0 := w) w.heap.size (by rfl) (.tmp 20) (.tmp 31) 31 3 (.int .i64 0) 8 rfl Tryd.underlying31 info3 rfl (by decide) (by omega) u5 x5_1 t266 _ _ _ (fun k_ => some k_ ≠ (.slice Ao16 t266.length co16 : Value).ownBlock) (fun _ => False) rfl rfl ?aO ?aR (fun _ _ h => h) (fun _ h => h.elim) ?aF ?aB ?aS ?aL ?_
    (case aR => repeat (first | exact (Kd.R_reads' HO268.out).2.2 | (with_reducible refine cA ?_ _) | (with_reducible refine cN ?_ _) | (with_reducible refine cD ?_)))
    (case aB => exact (z1 HB.out GE259.out))
    (case aF => exact (fun k_ hk => Kd.fresh' (Kd.R_lt (zg HO268.out)) k_ hk))
    (case aO => exact (by (with_reducible repeat (first | apply rA | apply rN | apply rD)); exact Kd.R_mono HO_5.out (fun _ hk => hk.2)))
    (case aS => exact (q0h (z1 HB.out GE259.out)))
    (case aL => have := LMc11.out; omega)
    intro v270 w15 ho hb hg hat
    rw [← Ny269.out] at ho
    have n0_ := aS (blk_grown (g := gb259) (o := .cells #[.slice (some ad263) l0_0.length c0_0, .bool a0_1] 24 (0, 0)) (z8 BK259.out) hg (Kd.R_ne HO_5.out BK259.out (by decide)))
    have n1_ := aS (Kd.R_after (ok := (fun _ => True)) (zg HO268.out) hg hat)
    have n2_ := aS (hb)
    have n3_ := aS (ho)
    clear BK259
    clear HO268
    clear HB
    clear HO_5
    have BK259 := n0_
    have HO268 := n1_
    have HB := n2_
    have HO271 := n3_
    clear n0_ n1_ n2_ n3_
    clear ho hb hg hat
    refine hK.out _ _ ⟨(q05 BK259.out 0).trans rfl, (q05 BK259.out 1).trans rfl, ((HB.out.cell (World.block_lt_of_cell? w _ hw264_0)).trans hw264_0), ((HB.out.cell (World.block_lt_of_cell? w _ hw264_1)).trans hw264_1), ((HB.out.cell (World.block_lt_of_cell? w _ hw264_2)).trans hw264_2), ((HB.out.cell (World.block_lt_of_cell? w _ hw264_3)).trans hw264_3), ((HB.out.cell (World.block_lt_of_cell? w _ hw264_4)).trans hw264_4), ((HB.out.cell (World.block_lt_of_cell? w _ hw264_5)).trans hw264_5), ((HB.out.cell (World.block_lt_of_cell? w _ hw265_0)).trans hw265_0)⟩ (fun hHeld => ?_)
    clear hK K
    refine norm_ (a' := ?_) ?_ ?_
    rotate_left
    ·show Act.put _ (some 32) _ = _
     simp only [Act.put, s1, s2, s3, q0p, q0r]
     rfl
    refine q18 (i := 13) (N := some 5) (v := ?_) (a' := ?_) #[true, true, true, true, true, true, true, true, true, true, true, true, true, true] rfl rfl (q0x HT_.out (by kernel_rfl)) (fun _ _ _ h => h) (Or.inl ⟨by rfl, ?_⟩) ?_ ?_
    rotate_left
    ·intro w'
     go_simp
     with_reducible rfl
    rotate_left
    ·simp only [Act.put, s1, s2, s3, q0p, q0r]
     rfl
    refine done_ (done_of HT_.out (by kernel_rfl)) ?_
    try go_wp2
    go_roundg k1
    case measure => have := HK1.out; omega
    case rel => exact ⟨(y269), (wrap64 (x6_1 + 1)), zj, H', ⟨by have := HK1.out; omega⟩, ⟨by (with_reducible repeat (first | apply rA | apply rN | apply rD)); exact Kd.R_mono HO271.out (fun _ hk => trivial)⟩, ⟨by (with_reducible repeat (first | refine kN ?_ _ | refine kD ?_ | refine kA ?_ _)); exact BK259.out⟩, ⟨by repeat (first | (with_reducible first | exact HB.out | apply bA | apply bN | apply bD | refine bS ?_ GE259.out) | exact HB.out)⟩⟩
   case n8 =>
    obtain rfl := Option.some.inj H
    obtain ⟨hczL_0, hczL_1, hfzL_0, hfzL_1⟩ := bk2 BK259.out
    obtain ⟨ad263, A263_2, c263_2, A263_5, c263_5, e263, hx263_0, hx263_1, hx263_2, hx263_3, hx263_4, hx263_5, HC263_2, HR263_2, HC263_5, HR263_5, p263, q263⟩ := q0m HB.out HR0_0.out a1 za za
    cases e263
    go_wp2
    go_ret
    exact ⟨_, by first | rfl | (simp [q04, q03] <;> rfl) | (simp [*, q04, q03] <;> rfl), by (with_reducible repeat (first | apply rA | apply rN | apply rD)); exact HO_5.out, by repeat (first | (with_reducible first | exact HB.out | apply bA | apply bN | apply bD | refine bS ?_ GE259.out) | exact HB.out)⟩
def api_Attr_80.f (l0 : List S122) : Option (List S122) := if l0.length * 32 ≤ 140737488355328 then some l0 else none
set_option maxHeartbeats 2000000 in
theorem api_Attr_80.calls (A0 : Option Addr) (c0 : Nat) (l0 : List S122) (r : List S122) (w : World) (hr0 : Kd.C k122 w A0 l0.length l0) (hc0 : l0.length ≤ c0) (h : api_Attr_80.f l0 = some r) :
 Calls Tryd.prog 80 #[.slice A0 l0.length c0] w fun e w' => ∃ v0_ : Value, e = .returned (v0_) ∧ Kd.R k122 122 w' w.heap.size (fun _ => True) v0_ r ∧ Below w.heap.size w w' := by
 unfold api_Attr_80.f at h
 split at h
 ·rename_i hsz0
  obtain rfl := Option.some.inj h
  clear h
  have hsz := aS hsz0
  clear hsz0
  have hC := aS hr0
  clear hr0
  have qnil : ∀ (w : World) (a : Option Addr) (n c n' c' : Nat), (binOp .eql 41 (.slice a n c) (.slice none n' c')).run Tryd.prog w = .ok (.bool a.isNone) w := fun w a n c n' c' => Lib.run_eql_slice_nil w _ _ a n c n' c' Tryd.underlying41
  cases A0 with
  | none =>
   obtain rfl : l0 = [] := by
    cases l0 with
    | nil => rfl
    | cons x t =>
     obtain ⟨ad, he, _⟩ := hC.out.2.2 (by simp)
     cases he
   go_enter Tryd.func80, Tryd.ntmps80
   go_wp2
   go_ret
   exact ⟨_, rfl, Kd.R_nil _ _ _ _ _, Below.refl _ _⟩
  | some ad =>
   go_enter Tryd.func80, Tryd.ntmps80
   go_wp2_with (at_builtin; refine Kd.R_append_rows k122 (Rr := fun x cs => Kd.K k122 w x cs) (w0 := w) w.heap.size rfl (.tmp 5) (.tmp 6) 41 122 (.agg #[(.string ⟨#[]⟩), (.string ⟨#[]⟩)]) 32 rfl Tryd.underlying41 info122 rfl (by decide) (by omega) (.slice (some ⟨w.heap.size, 0, none⟩) 0 0) ([] : List S122) l0 (some ad) _ c0 (fun _ => True) (fun _ => False) rfl rfl ?hO ?hR ?hKM (fun _ hk => hk.elim) (fun _ _ => trivial) ?hB ?hba ?hl ?_)
   case hO => exact ⟨fun _ _ => trivial, [], World.ownsRow_made w #[] 0 (Nat.le_refl _) (Nat.zero_le _) (by simp), Reps.none _ _⟩
   case hR => exact q0y.imp_ hC.out ((Below.refl _ w).alloc (Nat.le_refl _) _) (fun _ _ h => h)
   case hKM => exact fun _ _ h => h
   case hB => exact (Below.refl _ w).alloc (Nat.le_refl _) _
   case hba => simp
   case hl => have := hsz.out; simpa using this
   intro v1 w1 hown hb hg hat
   go_wp2
   go_ret
   exact ⟨_, rfl, by simpa using hown, hb⟩
 ·cases h
def slices_Clone_int_int.f (l0 : List Int) : Option (List Int) := if l0.length * 8 ≤ 140737488355328 then some l0 else none
set_option maxHeartbeats 2000000 in
theorem slices_Clone_int_int.calls (A0 : Option Addr) (c0 : Nat) (l0 : List Int) (r : List Int) (w : World) (hr0 : Kd.C (Kd.int .i64) w A0 l0.length l0) (hc0 : l0.length ≤ c0) (h : slices_Clone_int_int.f l0 = some r) :
 Calls Tryd.prog 81 #[.slice A0 l0.length c0] w fun e w' => ∃ v0_ : Value, e = .returned (v0_) ∧ Kd.R (Kd.int .i64) 3 w' w.heap.size (fun _ => True) v0_ r ∧ Below w.heap.size w w' := by
 unfold slices_Clone_int_int.f at h
 split at h
 ·rename_i hsz0
  obtain rfl := Option.some.inj h
  clear h
  have hsz := aS hsz0
  clear hsz0
  have hC := aS hr0
  clear hr0
  have qnil : ∀ (w : World) (a : Option Addr) (n c n' c' : Nat), (binOp .eql 31 (.slice a n c) (.slice none n' c')).run Tryd.prog w = .ok (.bool a.isNone) w := fun w a n c n' c' => Lib.run_eql_slice_nil w _ _ a n c n' c' Tryd.underlying31
  cases A0 with
  | none =>
   obtain rfl : l0 = [] := by
    cases l0 with
    | nil => rfl
    | cons x t =>
     obtain ⟨ad, he, _⟩ := hC.out.2.2 (by simp)
     cases he
   go_enter Tryd.func81, Tryd.ntmps81
   go_wp2
   go_ret
   exact ⟨_, rfl, Kd.R_nil _ _ _ _ _, Below.refl _ _⟩
  | some ad =>
   go_enter Tryd.func81, Tryd.ntmps81
   go_wp2_with (at_builtin; refine Kd.R_append_rows (Kd.int .i64) (Rr := fun x cs => Kd.K (Kd.int .i64) w x cs) (w0 := w) w.heap.size rfl (.tmp 5) (.tmp 6) 31 3 (.int .i64 0) 8 rfl Tryd.underlying31 info3 rfl (by decide) (by omega) (.slice (some ⟨w.heap.size, 0, none⟩) 0 0) ([] : List Int) l0 (some ad) _ c0 (fun _ => True) (fun _ => False) rfl rfl ?hO ?hR ?hKM (fun _ hk => hk.elim) (fun _ _ => trivial) ?hB ?hba ?hl ?_)
   case hO => exact ⟨fun _ _ => trivial, [], World.ownsRow_made w #[] 0 (Nat.le_refl _) (Nat.zero_le _) (by simp), Reps.none _ _⟩
   case hR => exact q0y.imp_ hC.out ((Below.refl _ w).alloc (Nat.le_refl _) _) (fun _ _ h => h)
   case hKM => exact fun _ _ h => h
   case hB => exact (Below.refl _ w).alloc (Nat.le_refl _) _
   case hba => simp
   case hl => have := hsz.out; simpa using this
   intro v1 w1 hown hb hg hat
   go_wp2
   go_ret
   exact ⟨_, rfl, by simpa using hown, hb⟩
 ·cases h
def clerestoryref1_SameInts.l0 : Nat → List Int → List Int → Int → Option (Bool)
 | 0, _, _, _ => none
 | k + 1, x0, x1, x5 => if x5 < (x0.length : Int) then (if 0 ≤ x5 then (if x5 < (x1.length : Int) then (if (rd x0 x5) = (rd x1 x5) then (clerestoryref1_SameInts.l0 k x0 x1 (wrap64 (x5 + 1))) else (some false)) else (none)) else (none)) else (some true)
def clerestoryref1_SameInts.f (k : Nat) (l0 : List Int) (l1 : List Int) : Option (Bool) := if (l0.length : Int) = (l1.length : Int) then (clerestoryref1_SameInts.l0 k l0 l1 0) else (some false)
set_option maxHeartbeats 8000000 in
set_option maxRecDepth 100000 in
theorem clerestoryref1_SameInts.calls (k : Nat) (A0 : Option Addr) (c0 : Nat) (l0 : List Int) (A1 : Option Addr) (c1 : Nat) (l1 : List Int) (r : Bool) (w : World) (hr0 : Kd.C (Kd.int .i64) w A0 l0.length l0) (hc0 : l0.length ≤ c0) (hr1 : Kd.C (Kd.int .i64) w A1 l1.length l1) (hc1 : l1.length ≤ c1) (h : clerestoryref1_SameInts.f k l0 l1 = some r) :
 Calls Tryd.prog 30 #[.slice A0 l0.length c0, .slice A1 l1.length c1] w fun e w' => e = .returned (.bool r) ∧ Drawn0 w w' := by
 have HR0 := aS hr0
 have HC0 := aS hc0
 clear hr0 hc0
 have HR1 := aS hr1
 have HC1 := aS hc1
 clear hr1 hc1
 have H : (if (l0.length : Int) = (l1.length : Int) then (clerestoryref1_SameInts.l0 k l0 l1 0) else (some false)) = some r := h
 clear h
 by_cases c3 : (l0.length : Int) = (l1.length : Int)
 ·rw [if_pos c3] at H
  have c3b0 : ((l0.length : Int) == (l1.length : Int)) = true := beq_iff_eq.mpr c3
  have c3b1 : ((l0.length : Int) != (l1.length : Int)) = false := bne_eq_false_iff_eq.mpr c3
  have c3b2 : (l0.length == l1.length) = true := by first | simpa using c3 | (simp at c3 ⊢; omega)
  clear c3
  have H' := aS H
  clear H
  go_enter Tryd.func30, Tryd.ntmps30
  go_wp2
  repeat (go_quiet (fail); try go_wp2)
  go_loopg [5] k (fun kq v5 w' => ∃ (x5_1 : Int), v5 = .int .i64 x5_1 ∧ Aside0 (clerestoryref1_SameInts.l0 kq l0 l1 x5_1 = some r) ∧ Aside0 (kq ≤ k) ∧ Drawn0 w w')
  case atStart => exact ⟨(0), zj, H', ⟨Nat.le_refl _⟩, by repeat (first | exact Drawn0.refl _ | apply Drawn0.step)⟩
  case round =>
   clear H'
   try clear c1
   try clear p2
   try clear c3
   try clear c3b0
   try clear c3b1
   try clear c3b2
   obtain ⟨x5_1, rfl, HA, HK1, ⟨m1, rfl⟩⟩ := hrel
   cases gk with
   | zero => exact absurd HA.out (by simp [clerestoryref1_SameInts.l0])
   | succ k1 =>
    have H := HA.out
    clear HA
    simp only [clerestoryref1_SameInts.l0] at H
    by_cases c4 : x5_1 < (l0.length : Int)
    ·rw [if_pos c4] at H
     have c4b0 : decide (x5_1 < (l0.length : Int)) = true := decide_eq_true c4
     clear c4
     by_cases c5 : 0 ≤ x5_1
     ·rw [if_pos c5] at H
      have c5b0 : decide (0 ≤ x5_1) = true := decide_eq_true c5
      clear c5
      by_cases c6 : x5_1 < (l1.length : Int)
      ·rw [if_pos c6] at H
       have c6b0 : decide (x5_1 < (l1.length : Int)) = true := decide_eq_true c6
       clear c6
       by_cases c7 : (rd l0 x5_1) = (rd l1 x5_1)
       ·rw [if_pos c7] at H
        have c7b0 : ((rd l0 x5_1) == (rd l1 x5_1)) = true := beq_iff_eq.mpr c7
        have c7b1 : ((rd l0 x5_1) != (rd l1 x5_1)) = false := bne_eq_false_iff_eq.mpr c7
        clear c7
        have H' := aS H
        clear H
        have p272 : 0 ≤ (x5_1 : Int) := od za
        have q272 : x5_1 < (l0.length : Int) := od za
        obtain ⟨ad272, e272, hx272_0⟩ := Kd.at_int HR0.out x5_1 p272 q272
        cases e272
        replace p272 := eq_true p272
        replace q272 := eq_true q272
        have p273 : 0 ≤ (x5_1 : Int) := od za
        have q273 : x5_1 < (l1.length : Int) := od za
        obtain ⟨ad273, e273, hx273_0⟩ := Kd.at_int HR1.out x5_1 p273 q273
        cases e273
        replace p273 := eq_true p273
        replace q273 := eq_true q273
        go_wp2
        repeat (go_quiet (fail); try go_wp2)
        go_roundg k1
        case measure => have := HK1.out; omega
        case rel => exact ⟨(wrap64 (x5_1 + 1)), zj, H', ⟨by have := HK1.out; omega⟩, by repeat (first | exact Drawn0.refl _ | apply Drawn0.step)⟩
       ·rw [if_neg c7] at H
        have c7b0 : ((rd l0 x5_1) == (rd l1 x5_1)) = false := beq_eq_false_iff_ne.mpr c7
        have c7b1 : ((rd l0 x5_1) != (rd l1 x5_1)) = true := bne_iff_ne.mpr c7
        obtain rfl := Option.some.inj H
        have p272 : 0 ≤ (x5_1 : Int) := od za
        have q272 : x5_1 < (l0.length : Int) := od za
        obtain ⟨ad272, e272, hx272_0⟩ := Kd.at_int HR0.out x5_1 p272 q272
        cases e272
        replace p272 := eq_true p272
        replace q272 := eq_true q272
        have p273 : 0 ≤ (x5_1 : Int) := od za
        have q273 : x5_1 < (l1.length : Int) := od za
        obtain ⟨ad273, e273, hx273_0⟩ := Kd.at_int HR1.out x5_1 p273 q273
        cases e273
        replace p273 := eq_true p273
        replace q273 := eq_true q273
        go_wp2
        repeat (go_quiet (fail); try go_wp2)
        go_ret
        exact ⟨by first | rfl | (simp; done) | (simp [*]; done), by repeat (first | exact Drawn0.refl _ | apply Drawn0.step)⟩
      ·rw [if_neg c6] at H
       exact absurd H (by simp)
     ·rw [if_neg c5] at H
      exact absurd H (by simp)
    ·rw [if_neg c4] at H
     have c4b0 : decide (x5_1 < (l0.length : Int)) = false := decide_eq_false c4
     clear c4
     obtain rfl := Option.some.inj H
     go_wp2
     repeat (go_quiet (fail); try go_wp2)
     go_ret
     exact ⟨by first | rfl | (simp; done) | (simp [*]; done), by repeat (first | exact Drawn0.refl _ | apply Drawn0.step)⟩
 ·rw [if_neg c3] at H
  have c3b0 : ((l0.length : Int) == (l1.length : Int)) = false := beq_eq_false_iff_ne.mpr c3
  have c3b1 : ((l0.length : Int) != (l1.length : Int)) = true := bne_iff_ne.mpr c3
  have c3b2 : (l0.length == l1.length) = false := by first | simpa using c3 | (simp at c3 ⊢; omega)
  obtain rfl := Option.some.inj H
  go_enter Tryd.func30, Tryd.ntmps30
  go_wp2
  repeat (go_quiet (fail); try go_wp2)
  go_ret
  exact ⟨by first | rfl | (simp; done) | (simp [*]; done), by repeat (first | exact Drawn0.refl _ | apply Drawn0.step)⟩
end Go.Proofs.YthjnallbbhnndaaDoor.XWs
namespace Go.Proofs.YthjnallbbhnndaaDoor.Bk
open Go Go.RowKit Go.Shelf Go.Proofs Go.Proofs.YthjnallbbhnndaaDoorW.PrintWords
def Ob (W : World) (b : Nat) : Option Nat := (W.cell? ⟨b, 0, none⟩).bind Value.ownBlock
theorem ob_boxed {W : World} {b : Nat} {t : TypeId} {v : Value} (h : Boxed W b t v) : Ob W b = v.ownBlock := by unfold Ob; rw [h.cell]; rfl
def OutOk (W : World) (b : Nat) : Prop := ∀ g, Ob W b = some g → ∃ cs, W.heap[g]? = some (.cells cs 3 (0, 0))
structure KpB (B0 b : Nat) (W W' : World) : Prop where
  bel : Below B0 W W'
  cells : ∀ g cs t fz, W.heap[g]? = some (.cells cs t fz) → g ≠ b → Ob W b ≠ some g → W'.heap[g]? = some (.cells cs t fz)
  ob : Ob W' b = Ob W b ∨ ∃ g, Ob W' b = some g ∧ W.heap.size ≤ g
  ok : OutOk W b → OutOk W' b
  defs : ∀ g : Nat, W.heap[g]? = some (Obj.deferred (some [])) → W'.heap[g]? = some (Obj.deferred (some []))
def JS {β : Type} (B1 b : Nat) (J : β → World → Prop) : Prop := ∀ s W W' row, J s W → W.grownBy W' row → (∀ r, row = some r → B1 ≤ r ∧ Ob W b ≠ some r) → J s W'
theorem q1a {W W' : World} {b : Nat} {row : Option Nat} (h : W.grownBy W' row) (hb : b < W.heap.size) (hr : some b ≠ row) : Ob W' b = Ob W b := by
  unfold Ob
  rw [World.cell?_of_block (a := ⟨b, 0, none⟩) (h.block b hb hr)]
theorem q0q {W W' : World} {b : Nat} {row : Option Nat} (h : W.grownBy W' row) (hb : b < W.heap.size) (hr : some b ≠ row) (ho : OutOk W b) (hn : ∀ r, row = some r → Ob W b ≠ some r) : OutOk W' b := fun g hg => by
  rw [q1a h hb hr] at hg
  obtain ⟨cs, hc⟩ := ho g hg
  exact ⟨cs, (h.block g (Array.getElem?_eq_some_iff.1 hc).1 (fun e => hn g e.symm hg)).trans hc⟩
theorem ob_other {W : World} {b g : Nat} {cs : Array Value} {t : TypeId} {fz : Nat × Nat} (ho : OutOk W b) (h : W.heap[g]? = some (.cells cs t fz)) (ht : t ≠ 3) : Ob W b ≠ some g := fun e => by
  obtain ⟨cs', h'⟩ := ho g e
  rw [h] at h'
  injection h' with h'
  injection h' with _ h2 _
  exact ht h2
theorem ob_nocells {W : World} {b g : Nat} {o : Obj} (ho : OutOk W b) (h : W.heap[g]? = some o) (hc : o.isCells = false) : Ob W b ≠ some g := fun e => by
  obtain ⟨cs', h'⟩ := ho g e
  rw [h] at h'
  cases h'
  cases hc
def ints (l : List Int) : List Value := l.map fun x => .int .i64 x
structure It (w0 : World) (B1 b bt bw gw : Nat) (c116 : Array Value) (stk : List Int) (W : World) : Prop where
  todo : ∃ v, Boxed W bt 31 v ∧ W.ownsRow B1 3 1 v stk.length (ints stk) ∧ (∀ g, v.ownBlock = some g → Ob W b ≠ some g)
  ok : OutOk W b
  ptr : Boxed W bw 107 (.pointer (some ⟨gw, 0, none⟩))
  st : W.heap[gw]? = some (.cells c116 116 (0, 0))
  bel : Below w0.heap.size w0 W
  size : B1 ≤ W.heap.size
structure Places (w0 : World) (B1 b bt bw gw : Nat) : Prop where
  lo : w0.heap.size ≤ B1
  b1 : b < B1
  w1 : bw < B1
  g1 : gw < B1
  wb : bw ≠ b
  gb : gw ≠ b
  t1 : B1 ≤ bt
theorem q16 {W : World} {base e sz n : Nat} {v : Value} {xs : List Value} (h : W.ownsRow base e sz v n xs) {g : Nat} (hg : v.ownBlock = some g) : base ≤ g ∧ ∃ cur, W.heap[g]? = some (.cells cur e (0, 0)) := by
  rcases h.2 with ⟨rfl, _⟩ | ⟨g', cap, cur, rfl, hb, hh, _⟩
  · cases hg
  · obtain rfl := Option.some.inj hg
    exact ⟨hb, cur, hh⟩
theorem It.round {w0 : World} {B1 b bt bw gw : Nat} {c116 : Array Value} {stk : List Int} {W W' : World} (p : Places w0 B1 b bt bw gw) (h : It w0 B1 b bt bw gw c116 stk W) (k : KpB w0.heap.size b W W') : It w0 B1 b bt bw gw c116 stk W' := by
  obtain ⟨v, hv, hr, hn⟩ := h.todo
  have pb := p.b1
  have pt := p.t1
  refine ⟨⟨v, k.cells _ _ _ _ hv (by omega) (ob_other h.ok hv (by decide)), ?_, ?_⟩, k.ok h.ok, k.cells _ _ _ _ h.ptr p.wb (ob_other h.ok h.ptr (by decide)), k.cells _ _ _ _ h.st p.gb (ob_other h.ok h.st (by decide)), h.bel.trans k.bel, Nat.le_trans h.size k.bel.size⟩
  · obtain ⟨h1, h2⟩ := hr
    refine ⟨h1, ?_⟩
    rcases h2 with h2 | ⟨g, cap, cur, rfl, hb, hh, h3⟩
    · exact .inl h2
    · exact .inr ⟨g, cap, cur, rfl, hb, k.cells _ _ _ _ hh (by omega) (hn g rfl), h3⟩
  · intro g hg
    obtain ⟨_, cur, hh⟩ := q16 hr hg
    rcases k.ob with e | ⟨g', e, hg'⟩
    · rw [e]; exact hn g hg
    · rw [e]
      intro e2
      have := (Array.getElem?_eq_some_iff.1 hh).1
      obtain rfl := Option.some.inj e2
      omega
theorem It.grown {w0 : World} {B1 b bt bw gw : Nat} {c116 : Array Value} {stk : List Int} {W W' : World} {row : Option Nat} (p : Places w0 B1 b bt bw gw) (h : It w0 B1 b bt bw gw c116 stk W) (hg : W.grownBy W' row) (hr : ∀ r, row = some r → B1 ≤ r ∧ ∃ o, W.heap[r]? = some o ∧ o.isCells = false) : It w0 B1 b bt bw gw c116 stk W' := by
  obtain ⟨v, hv, ho, hn⟩ := h.todo
  have pb := p.b1; have pw := p.w1; have pg := p.g1
  have hs := h.size
  have nb : ∀ g, g < B1 → some g ≠ row := fun g hlt e => by have := (hr g e.symm).1; omega
  have nc : ∀ {g : Nat} {cs t fz}, W.heap[g]? = some (.cells cs t fz) → some g ≠ row := fun {g cs t fz} hc e => by
    obtain ⟨_, o, h1, h2⟩ := hr g e.symm
    rw [hc] at h1
    cases h1
    cases h2
  have lt : ∀ {g : Nat} {o : Obj}, W.heap[g]? = some o → g < W.heap.size := fun hc => (Array.getElem?_eq_some_iff.1 hc).1
  have eb := q1a hg (Nat.lt_of_lt_of_le pb hs) (nb b pb)
  refine ⟨⟨v, hv.kept hg (nc hv), ho.kept hg ?_, fun g hgb => by rw [eb]; exact hn g hgb⟩, q0q hg (Nat.lt_of_lt_of_le pb hs) (nb b pb) h.ok (fun r e => ?_), h.ptr.kept hg (nc h.ptr), (hg.block _ (lt h.st) (nc h.st)).trans h.st, h.bel.grown hg h.bel.size (fun r e => Nat.le_trans p.lo (hr r e).1), Nat.le_trans hs hg.size⟩
  · rcases ho.2 with ⟨rfl, _⟩ | ⟨g, cap, cur, rfl, _, hh, _⟩
    · exact .inl rfl
    · exact .inr (nc hh)
  · obtain ⟨_, o, h1, h2⟩ := hr r e
    exact ob_nocells h.ok h1 h2
theorem It.start {w0 W : World} {b bw gw : Nat} {c116 : Array Value} (x : Int) (hb : b < W.heap.size) (hok : OutOk W b) (hptr : Boxed W bw 107 (.pointer (some ⟨gw, 0, none⟩))) (hst : W.heap[gw]? = some (.cells c116 116 (0, 0))) (hbel : Below w0.heap.size w0 W) :
    It w0 W.heap.size b (W.heap.size + 1) bw gw c116 [x] ((W.alloc (.cells #[.int .i64 x] 3)).alloc (.cells #[.slice (some ⟨W.heap.size, 0, none⟩) 1 1] 31)) := by
  have g1 := World.grownBy_alloc W (.cells #[.int .i64 x] 3) none
  have g2 := World.grownBy_alloc (W.alloc (.cells #[.int .i64 x] 3)) (.cells #[.slice (some ⟨W.heap.size, 0, none⟩) 1 1] 31) none
  have o1 := q0q g1 hb (by simp) hok (fun r e => by cases e)
  have e1 := q1a g1 hb (by simp)
  have e2 := q1a g2 (show b < (W.alloc _).heap.size by simp; omega) (by simp)
  have hr : ((W.alloc (.cells #[.int .i64 x] 3)).alloc (.cells #[.slice (some ⟨W.heap.size, 0, none⟩) 1 1] 31)).heap[W.heap.size]? = some (.cells #[.int .i64 x] 3 (0, 0)) := (Below.heap_alloc _ _ _ (by simp)).trans (World.alloc_heap_new W _)
  have hn := Boxed.new (W.alloc (.cells #[.int .i64 x] 3)) 31 (.slice (some ⟨W.heap.size, 0, none⟩) 1 1)
  rw [World.size_alloc] at hn
  refine ⟨⟨_, hn, ⟨rfl, .inr ⟨W.heap.size, 1, _, rfl, Nat.le_refl _, hr, Nat.le_refl _, by decide, rfl, rfl⟩⟩, fun g hg => ?_⟩, q0q g2 (by simp; omega) (by simp) o1 (fun r e => by cases e), (hptr.alloc _).alloc _, (g2.block gw (by simp; have := (Array.getElem?_eq_some_iff.1 hst).1; omega) (by simp)).trans ((g1.block gw (Array.getElem?_eq_some_iff.1 hst).1 (by simp)).trans hst), (hbel.alloc hbel.size _).alloc (by simp; have := hbel.size; omega) _, by simp; omega⟩
  obtain rfl := Option.some.inj hg
  rw [e2, e1]
  intro e
  obtain ⟨cs, hc⟩ := hok _ e
  exact absurd (Array.getElem?_eq_some_iff.1 hc).1 (Nat.lt_irrefl _)
theorem It.pop {w0 : World} {B1 b bt bw gw : Nat} {c116 : Array Value} {stk : List Int} {n : Int} {W : World} (p : Places w0 B1 b bt bw gw) (h : It w0 B1 b bt bw gw c116 (stk ++ [n]) W) :
    ∃ g cap, Boxed W bt 31 (.slice (some ⟨g, 0, none⟩) (stk.length + 1) cap) ∧ W.cell? ⟨g, stk.length, none⟩ = some (.int .i64 n) ∧ stk.length + 1 ≤ cap ∧
      It w0 B1 b bt bw gw c116 stk (W.setCell ⟨bt, 0, none⟩ (.slice (some ⟨g, 0, none⟩) stk.length cap)) := by
  obtain ⟨v, hv, ho, hn⟩ := h.todo
  have pb := p.b1; have pw := p.w1; have pg := p.g1; have pt := p.t1
  have hs := h.size
  obtain ⟨h1, h2⟩ := ho
  rcases h2 with ⟨_, h2⟩ | ⟨g, cap, cur, rfl, hgb, hh, hnc, hcm, hsz, ht⟩
  · simp at h2
  rw [List.length_append, List.length_singleton] at hv hnc ht
  have hgt : g ≠ bt := fun e => by
    subst e
    have := (show W.heap[g]? = _ from hv).symm.trans hh
    injection this with this
    injection this with _ t2 _
    exact absurd t2 (by decide)
  have hgr := grownBy_setCell' W bt (.slice (some ⟨g, 0, none⟩) stk.length cap)
  have eb := q1a hgr (show b < W.heap.size by omega) (fun e => by cases e; omega)
  refine ⟨g, cap, hv, ?_, hnc, ⟨_, hv.set _, ⟨by simp [ints], .inr ⟨g, cap, cur, rfl, hgb, (hgr.block g (Array.getElem?_eq_some_iff.1 hh).1 (fun e => hgt (by cases e; rfl))).trans hh, by omega, hcm, hsz, ?_⟩⟩, fun k hk => by rw [eb]; exact hn k hk⟩,
    q0q hgr (by omega) (fun e => by cases e; omega) h.ok (fun r e => by cases e; exact ob_other h.ok hv (by decide)), h.ptr.other (by omega) _, (hgr.block gw (by omega) (fun e => by cases e; omega)).trans h.st, h.bel.setCell (p := ⟨bt, 0, none⟩) (by have := p.lo; show _ ≤ bt; omega) _, Nat.le_trans hs hgr.size⟩
  · have : cur[stk.length]? = some (.int .i64 n) := by
      have h3 : (cur.toList.take ((stk.length + 1) * 1))[stk.length]? = some (.int .i64 n) := by rw [ht]; simp [ints]
      rw [List.getElem?_take] at h3
      simp at h3
      exact h3
    simp [World.cell?, hh, this]
  · have : (cur.toList.take ((stk.length + 1) * 1)).take (stk.length * 1) = ints stk := by rw [ht]; simp [ints]
    rw [List.take_take, Nat.min_eq_left (by omega)] at this
    exact this
theorem It.push {w0 : World} {B1 b bt bw gw : Nat} {c116 : Array Value} {stk : List Int} {x : Int} {v v' : Value} {W w1 : World} (p : Places w0 B1 b bt bw gw) (h : It w0 B1 b bt bw gw c116 stk W) (hv : Boxed W bt 31 v) (ho : W.ownsRow B1 3 1 v stk.length (ints stk)) (hn : ∀ g, v.ownBlock = some g → Ob W b ≠ some g)
    (hown : w1.ownsRow B1 3 1 v' (stk.length + 1) (ints stk ++ [.int .i64 x])) (hg : (W.alloc (.cells #[.int .i64 x] 3)).grownBy w1 v.ownBlock) (hat : v'.ownBlock = v.ownBlock ∨ v'.ownBlock = some (W.heap.size + 1)) :
    It w0 B1 b bt bw gw c116 (stk ++ [x]) (w1.setCell ⟨bt, 0, none⟩ v') := by
  have pb := p.b1; have pw := p.w1; have pg := p.g1; have pt := p.t1; have pl := p.lo
  have hs := h.size
  obtain ⟨k1, k2, k3, k4, k5⟩ := hv.appended (by decide) ho hs pt hown hg
  have ga := World.grownBy_alloc W (.cells #[.int .i64 x] 3) none
  have vb : ∀ g, v.ownBlock = some g → B1 ≤ g := fun g e => (q16 ho e).1
  have nb : ∀ g, g < B1 → some g ≠ v.ownBlock := fun g hlt e => by have := vb g e.symm; omega
  have gs := grownBy_setCell' w1 bt v'
  have e1 := q1a ga (show b < W.heap.size by omega) (by simp)
  have e2 := q1a hg (show b < (W.alloc _).heap.size by simp; omega) (nb b pb)
  have e3 := q1a gs (show b < w1.heap.size by have := hg.size; simp at this; omega) (fun e => by cases e; omega)
  have o1 := q0q ga (show b < W.heap.size by omega) (by simp) h.ok (fun r e => by cases e)
  have o2 := q0q hg (show b < (W.alloc _).heap.size by simp; omega) (nb b pb) o1 (fun r e => by rw [e1]; exact hn r e)
  refine ⟨⟨v', k2, by rw [List.length_append, List.length_singleton]; simpa [ints] using k3, fun g hgb => ?_⟩, q0q gs (by have := hg.size; simp at this; omega) (fun e => by cases e; omega) o2 (fun r e => by cases e; exact ob_other o2 k1 (by decide)),
    (k5.block bw (by omega)).trans h.ptr, (k5.block gw (by omega)).trans h.st, h.bel.trans (k5.mono pl), Nat.le_trans hs k5.size⟩
  rw [e3, e2, e1]
  intro ho'
  obtain ⟨cs, hc⟩ := h.ok g ho'
  have hlt := (Array.getElem?_eq_some_iff.1 hc).1
  rcases hat with e | e
  · rw [e] at hgb
    exact hn g hgb ho'
  · rw [e] at hgb
    obtain rfl := Option.some.inj hgb
    omega
theorem wr2 {m : Nat} (h : m ≤ 4000000) : wrap64 (m : Int) = (m : Int) := by unfold wrap64; omega
theorem len_ok {a b c d e : Nat} (h1 : a + b ≤ c ∧ c ≤ d) (h2 : e + (c + 1) ≤ 1000000) : b ≤ 4000000 := by omega
theorem pos1 (m : Nat) : (0 : Int) < (m : Int) + 1 := by omega
theorem bnds {m cap : Nat} (h : m + 1 ≤ cap) : (0 : Int) ≤ (m : Int) ∧ (m : Int) < (m : Int) + 1 ∧ (m : Int) ≤ (cap : Int) ∧ m ≤ cap ∧ (m : Int) < ((m + 1 : Nat) : Int) := by omega
theorem len_ks {a b c d e : Nat} (h1 : a + b ≤ c ∧ c ≤ d) (h2 : e + (c + 1) ≤ 1000000) : a + b ≤ 1000000 := by omega
theorem owns_slice {W : World} {base e sz n : Nat} {v : Value} {xs : List Value} (h : W.ownsRow base e sz v n xs) : ∃ A c, v = .slice A n c := by
  rcases h.2 with ⟨rfl, rfl⟩ | ⟨g, cap, cur, rfl, _⟩
  · exact ⟨_, _, rfl⟩
  · exact ⟨_, _, rfl⟩
def mark (D : Nat) : Deferred := { target := .collected D, args := #[] }
theorem leaves_all {F : Fence} {n : Nat} {P : Program} {fn : Func} {tmps : Array Value} {R : Ending → World → Prop} {B1 b : Nat} (hb : b < B1) (Jw : World → Prop)
    (hJ : ∀ W W' row, Jw W → W.grownBy W' row → (∀ r, row = some r → B1 ≤ r ∧ Ob W b ≠ some r) → Jw W') (hR : ∀ W, Jw W → LeavesIn F n P fn tmps R [] .returning W) :
    ∀ (ds : List Nat) (W : World), Jw W → b < W.heap.size → OutOk W b → ds.Nodup → (∀ D ∈ ds, B1 ≤ D ∧ W.heap[D]? = some (.deferred (some []))) → LeavesInM F n P fn tmps R (ds.map mark) .returning W
  | [], W, h, _, _, _, _ => hR W h
  | D :: t, W, h, hlt, ho, hnd, hd => by
    obtain ⟨h1, h2⟩ := hd D (by simp)
    have hg := grownBy_putObj' W D (.deferred none)
    have hne : Ob W b ≠ some D := ob_nocells ho h2 rfl
    have hbr : some b ≠ some D := fun e => by cases e; omega
    refine ⟨by simp, .inl ⟨D, _, rfl, run_takeDeferred h2, ?_⟩⟩
    have hnd' := List.nodup_cons.1 hnd
    refine leaves_all hb Jw hJ hR t _ (hJ W _ _ h hg (fun r e => by cases e; exact ⟨h1, hne⟩)) (Nat.lt_of_lt_of_le hlt hg.size) (q0q hg hlt hbr ho (fun r e => by cases e; exact hne)) hnd'.2 fun E hE => ?_
    obtain ⟨e1, e2⟩ := hd E (by simp [hE])
    exact ⟨e1, (World.putObj_heap_other (fun e => hnd'.1 (by rw [← show E = D from e]; exact hE))).trans e2⟩
end Go.Proofs.YthjnallbbhnndaaDoor.Bk
namespace Go.Proofs.YthjnallbbhnndaaDoor.Bk
open Go Go.RowKit Go.Shelf Go.Proofs Go.Proofs.YthjnallbbhnndaaDoor.XWs Go.Proofs.YthjnallbbhnndaaDoorW.PrintWords Go.Proofs.YthjnallbbhnndaaDoorW.PrintLast
attribute [local go_sem] Oper.semAt_some
def belR (ns : List S43) : Nat → List Int → Option (List Int)
  | _, [] => some []
  | 0, _ :: _ => none
  | k + 1, n :: t => if 0 ≤ n ∧ n < ns.length then (belR ns k ((q00 ns n).f5 ++ t)).map (n :: ·) else none
theorem belR_len {ns : List S43} : ∀ {k : Nat} {T rest : List Int}, belR ns k T = some rest → T.length ≤ rest.length ∧ rest.length ≤ k
  | _, [], rest, h => by cases rest <;> simp_all [belR]
  | 0, _ :: _, _, h => by simp [belR] at h
  | k + 1, n :: t, rest, h => by
    rw [belR] at h
    split at h
    · cases hr : belR ns k ((q00 ns n).f5 ++ t) with
      | none => rw [hr] at h; cases h
      | some r =>
        rw [hr] at h
        obtain rfl := Option.some.inj h
        have := belR_len hr
        simp only [List.length_append, List.length_cons] at *
        omega
    · cases h
theorem belR_cons {ns : List S43} {k : Nat} {n : Int} {t rest : List Int} (h : belR ns k (n :: t) = some rest) : ∃ k' r, k = k' + 1 ∧ 0 ≤ n ∧ n < ns.length ∧ rest = n :: r ∧ belR ns k' ((q00 ns n).f5 ++ t) = some r := by
  cases k with
  | zero => simp [belR] at h
  | succ k =>
    rw [belR] at h
    split at h
    · rename_i hr
      cases hb : belR ns k ((q00 ns n).f5 ++ t) with
      | none => rw [hb] at h; cases h
      | some r =>
        rw [hb] at h
        obtain rfl := Option.some.inj h
        exact ⟨k, r, rfl, hr.1, hr.2, rfl, hb⟩
    · cases h
theorem rowat_C {W : World} {A : Option Addr} {xs : List Int} (h : (Kd.int .i64).C W A xs.length xs) : RowAt W A xs := fun i hi => by
  obtain ⟨ad, e, hc⟩ := Kd.at_int h (i : Int) (by omega) (by omega)
  exact ⟨ad, e, hc⟩
theorem infoI : (Tryd.prog.info? 3).map (fun i => (i.zero, i.size, i.bytes)) = some (some (.int .i64 0), 1, 8) := by kernel_rfl
section
variable (w0 : World) (ns : List S43) (A0 : Option Addr) (c0 : Nat) (q : Bool) (all : List Int) (J : List Int → World → Prop) (b bt bw gw : Nat)
structure Inv (B1 : Nat) (k : Nat) (Ds : List Nat) (pre stk rest : List Int) (W : World) : Prop where
  nd : Ds.Nodup
  ds : ∀ D ∈ Ds, B1 ≤ D ∧ W.heap[D]? = some (.deferred (some []))
  it : It w0 B1 b bt bw gw #[.slice A0 ns.length c0, .bool q] stk W
  all_ : pre ++ rest = all
  bel : belR ns k stk.reverse = some rest
  j : J pre W
end
set_option maxRecDepth 100000 in
set_option maxHeartbeats 4000000 in
theorem below1_in (n : Nat) (hn : 4 ≤ n) (l b bn bw gw : Nat) (root : Int) (w0 : World) (ns : List S43) (A0 : Option Addr) (c0 : Nat) (q : Bool) (hC : Kd.C k43 w0 A0 ns.length ns) (J : List Int → World → Prop) (all : List Int) (k0 : Nat) (hk0 : k0 ≤ 1000000) (hall : belR ns k0 [root] = some all)
    (W : World) (hlo : w0.heap.size ≤ W.heap.size) (hb : b < W.heap.size) (hwb : bw ≠ b) (hgb : gw ≠ b) (hJs : JS W.heap.size b J)
    (hY : ∀ (pre : List Int) (x : Int) (rest : List Int) (W1 : World), J pre W1 → pre ++ x :: rest = all → YieldAt Fence.wide (n - 1) Tryd.prog l #[.int .i64 x] W1 fun e W' => e = .returned (.bool true) ∧ J (pre ++ [x]) W' ∧ KpB w0.heap.size b W1 W')
    (hbn : Boxed W bn 3 (.int .i64 root)) (hptr : Boxed W bw 107 (.pointer (some ⟨gw, 0, none⟩))) (hst : W.heap[gw]? = some (.cells #[.slice A0 ns.length c0, .bool q] 116 (0, 0))) (hbel : Below w0.heap.size w0 W) (hok : OutOk W b) (h0 : J [] W) :
    CallsIn Fence.wide n Tryd.prog 121 #[.func (.yield l) #[] #[], .pointer (some ⟨bn, 0, none⟩), .pointer (some ⟨bw, 0, none⟩)] W fun e W' => (∃ v, e = .returned v) ∧ J all W' := by
  have hc0 := hbn.cell
  have hmm : Tryd.prog.follows .mixedOrders = true := by kernel_rfl
  refine callsIn_of_wp_marks Tryd.func121 rfl trivial ?_ rfl
  simp only [Tryd.ntmps121, List.size_toArray, List.length_cons, List.length_nil, Nat.reduceAdd, Nat.reduceSub, Array.replicate_succ, Array.replicate_zero, List.push_toArray, List.append_toArray, List.nil_append, List.cons_append]
  have hI0 := Lib.hid (It.start (w0 := w0) root hb hok hptr hst hbel)
  have hP : Places w0 W.heap.size b (W.heap.size + 1) bw gw := ⟨hlo, hb, hptr.lt, (Array.getElem?_eq_some_iff.1 hst).1, hwb, hgb, by omega⟩
  have hJ1 := Lib.hid (hJs [] _ _ none (hJs [] _ _ none h0 (World.grownBy_alloc W (.cells #[.int .i64 root] 3) none) (fun _ e => by cases e)) (World.grownBy_alloc _ (.cells #[.slice (some ⟨W.heap.size, 0, none⟩) 1 1] 31) none) (fun _ e => by cases e))
  gi_wp2
  generalize hbt : W.heap.size + 1 = bt at hI0 hP hJ1 ⊢
  generalize hB1 : W.heap.size = B1 at hI0 hP hJs hJ1 ⊢
  clear hb hok hptr hst hbel h0 hlo hwb hgb hbn hc0 hB1 hbt
  generalize ((W.alloc (.cells #[.int .i64 root] 3)).alloc (.cells #[.slice (some ⟨B1, 0, none⟩) 1 1] 31)) = W0 at hI0 hJ1 ⊢
  refine wpIn_loop_ghost_k (fun (k : Nat) (a : Act) (W : World) => ∃ (u5 : Value) (u6 : Value) (u7 : Value) (u8 : Value) (u9 : Value) (u10 : Value) (u11 : Value) (u12 : Value) (u13 : Value) (u14 : Value) (u15 : Value) (u16 : Value) (u17 : Value) (u18 : Value) (u19 : Value) (u20 : Value) (u21 : Value) (u22 : Value) (u23 : Value) (u24 : Value) (u25 : Value) (u26 : Value) (u27 : Value) (u28 : Value) (u29 : Value) (u30 : Value) (u31 : Value) (u32 : Value) (u33 : Value) (u34 : Value) (u35 : Value) (u36 : Value) (u37 : Value) (u38 : Value) (u39 : Value) (u40 : Value) (u41 : Value) (u42 : Value) (u43 : Value) (Ds : List Nat) (pre stk rest : List Int), a = { tmps := #[.func (.yield l) #[] #[], .pointer (some ⟨bn, 0, none⟩), .pointer (some ⟨bw, 0, none⟩), undef, .pointer (some ⟨bt, 0, none⟩), u5, u6, u7, u8, u9, u10, u11, u12, u13, u14, u15, u16, u17, u18, u19, u20, u21, u22, u23, u24, u25, u26, u27, u28, u29, u30, u31, u32, u33, u34, u35, u36, u37, u38, u39, u40, u41, u42, u43], defers := Ds.map mark } ∧ Inv w0 ns A0 c0 q all J b bt bw gw B1 k Ds pre stk rest W) k0 ⟨_, _, _, _, _, _, _, _, _, _, _, _, _, _, _, _, _, _, _, _, _, _, _, _, _, _, _, _, _, _, _, _, _, _, _, _, _, _, _, [], [], [root], all, rfl, ⟨List.nodup_nil, (fun _ h => by cases h), hI0.out, rfl, hall, hJ1.out⟩⟩ ?_
  have hL2 := Nat.le_trans (belR_len hall).2 hk0
  clear hall hI0 hJ1
  rintro k a wr ⟨u5, u6, u7, u8, u9, u10, u11, u12, u13, u14, u15, u16, u17, u18, u19, u20, u21, u22, u23, u24, u25, u26, u27, u28, u29, u30, u31, u32, u33, u34, u35, u36, u37, u38, u39, u40, u41, u42, u43, Ds, pre, stk, rest, rfl, hi⟩ J' K hJ' hK
  have hnb := hP.b1
  have hsz := hi.it.size
  have HP := Lib.hid hP
  rcases List.eq_nil_or_concat stk with rfl | ⟨stk, x, rfl⟩
  · obtain ⟨v, hv, ho, hn0⟩ := hi.it.todo
    obtain ⟨A, c, rfl⟩ := owns_slice ho
    have hcb := hv.cell
    have hrest : rest = [] := by
      have := hi.bel
      rw [List.reverse_nil] at this
      cases k <;> simpa [belR] using this.symm
    have hall3 : pre = all := by rw [← hi.all_, hrest, List.append_nil]
    have hjw := hi.j
    rw [hall3] at hjw
    have HI := Lib.hid hi
    clear hY
    gi_wp2
    exact leaves_all hnb (J all) (fun W W' row h hg hr => hJs all W W' row h hg hr) (fun W h => ⟨_, results_none rfl _ _ _, ⟨_, rfl⟩, h⟩) Ds wr hjw (by omega) HI.out.it.ok HI.out.nd HI.out.ds
  · rw [List.concat_eq_append] at hi
    obtain ⟨g, cap, hvb, hcell, hcap, hit2⟩ := It.pop hP hi.it
    obtain ⟨k', r, rfl, hx0, hx1, rfl, hb2⟩ := belR_cons (show belR ns k (x :: stk.reverse) = some rest by have := hi.bel; rwa [List.reverse_append, List.reverse_singleton, List.singleton_append] at this)
    have hlen := belR_len hb2
    have hlen2 := hL2
    rw [← hi.all_] at hlen2
    simp only [List.length_append, List.length_cons, List.length_reverse] at hlen hlen2
    have gs := grownBy_setCell' wr bt (.slice (some ⟨g, 0, none⟩) stk.length cap)
    have hj2 := hJs pre wr _ _ hi.j gs (fun r e => by cases e; exact ⟨hP.t1, ob_other hi.it.ok hvb (by decide)⟩)
    obtain ⟨fn, tmps, assign, body, hy, hR⟩ := hY pre x r _ hj2 hi.all_
    have hds2 : ∀ D ∈ Ds, B1 ≤ D ∧ (wr.setCell ⟨bt, 0, none⟩ (.slice (some ⟨g, 0, none⟩) stk.length cap)).heap[D]? = some (.deferred (some [])) := fun D hD => ⟨(hi.ds D hD).1, (gs.block D (Array.getElem?_eq_some_iff.1 (hi.ds D hD).2).1 (fun e => by have h2 := (hi.ds D hD).2; rw [Option.some.inj e, show wr.heap[bt]? = _ from hvb] at h2; cases h2)).trans (hi.ds D hD).2⟩
    have HDS := Lib.hid hds2
    have HALL := Lib.hid hi.all_
    have HND := Lib.hid hi.nd
    have HB2 := Lib.hid hb2
    have HIT2 := Lib.hid hit2
    have HLEN := Lib.hid hlen
    have HLEN2 := Lib.hid hlen2
    have HX := Lib.hid (And.intro hx0 hx1)
    clear hds2 hb2 hit2 hi hlen hlen2 hY gs hj2 hx0 hx1
    obtain ⟨m, hm⟩ : ∃ m, stk.length = m := ⟨_, rfl⟩
    have hcb := hvb.cell
    have hfb := hvb.frozen
    have h1n : 1 ≤ n := by omega
    have hm4 : m ≤ 4000000 := by rw [← hm]; exact len_ok HLEN.out HLEN2.out
    have hw2 : ∀ z : Int, z = (m : Int) → wrap64 z = (m : Int) := fun z e => by rw [e]; exact wr2 hm4
    have hpos := pos1 m
    rw [hm] at hcb hcell hR hy hcap HIT2 HDS
    clear hvb
    obtain ⟨p1, p2, p3, p4, p5⟩ := bnds hcap
    replace p1 := eq_true p1; replace p2 := eq_true p2; replace p3 := eq_true p3; replace p4 := eq_true p4; replace p5 := eq_true p5
    clear hm4
    gi_wp2
    refine hR.mono ?_
    rintro e W3 ⟨rfl, hj3, hk3⟩
    have hit3 := It.round hP HIT2.out hk3
    have hds3 : ∀ D ∈ Ds, (wr.setCell ⟨bt, 0, none⟩ (.slice (some ⟨g, 0, none⟩) m cap)).heap[D]? = some (.deferred (some [])) → W3.heap[D]? = some (.deferred (some [])) := fun D _ h => hk3.defs D h
    have hp3 := hit3.ptr.cell
    have hg0 : W3.cell? ⟨gw, 0, none⟩ = some (.slice A0 ns.length c0) := (q05 hit3.st 0).trans rfl
    obtain ⟨ad, A2, c2, A5, c5, hA, x0, x1, x2, x3, x4, x5, l2, C2, l5, C5⟩ := at_T43 hC x HX.out.1 HX.out.2
    subst hA
    have HX0 := HX.out.1
    have HX1 := HX.out.2
    replace HX0 := eq_true HX0
    replace HX1 := eq_true HX1
    replace x5 := (hit3.bel.cell (World.block_lt_of_cell? w0 _ x5)).trans x5
    have hro := rowat_C C5
    generalize hks : (q00 ns x).f5 = ks at hro x5 HLEN HB2 l5 C5
    have HRO := Lib.hid hro
    clear x0 x1 x2 x3 x4 l2 C2 hR hro
    have HJ3 := Lib.hid hj3
    have HIT3 := Lib.hid hit3
    have HDS3 : Hid (∀ D ∈ Ds, B1 ≤ D ∧ D < W3.heap.size ∧ W3.heap[D]? = some (.deferred (some []))) := Lib.hid fun D hD => by
      obtain ⟨d1, d2⟩ := HDS.out D hD
      have d3 := hds3 D hD d2
      exact ⟨d1, (Array.getElem?_eq_some_iff.1 d3).1, d3⟩
    clear hj3 hit3 hk3 hy C5 l5
    gi_wp2_with (refine ⟨trivial, ?_⟩; gi_at_call 122; refine (back_in _ A5 _ c5 _).mono ?_; rintro e w4 ⟨rfl, rfl⟩)
    obtain ⟨w4, hw4⟩ : ∃ w4, W3.alloc (.cells #[.slice A5 ks.length c5] 31) = w4 := ⟨_, rfl⟩
    have hsz4 : w4.heap.size = W3.heap.size + 1 := by rw [← hw4]; simp
    have hg4 : W3.grownBy w4 none := by rw [← hw4]; exact World.grownBy_alloc W3 _ none
    have hbx4 : Boxed w4 W3.heap.size 31 (.slice A5 ks.length c5) := by rw [← hw4]; exact Boxed.new W3 _ _
    have hit4 := HIT3.out.grown hP hg4 (fun r e => by cases e)
    have hro4 : RowAt w4 A5 ks := HRO.out.kept fun ad hz e => hit4.bel.block _ (rowat_lt HRO.out hz e)
    have hj4 := hJs _ _ _ none HJ3.out hg4 (fun r e => by cases e)
    have hB4 := HIT3.out.size
    have hbt3 : bt < W3.heap.size := by obtain ⟨v, hv, _⟩ := HIT3.out.todo; exact hv.lt
    have hlo4 := hP.lo
    have ht4 := hP.t1
    have hbd4 := HIT3.out.bel.size
    have hks4 := len_ks HLEN.out HLEN2.out
    have hds4 : ∀ D ∈ Ds, B1 ≤ D ∧ D < W3.heap.size ∧ w4.heap[D]? = some (.deferred (some [])) := fun D hD => by
      obtain ⟨d1, d2, d3⟩ := HDS3.out D hD
      exact ⟨d1, d2, (hg4.block D d2 (by simp)).trans d3⟩
    rw [hw4]
    refine wpIn_rangeFunc_ownG rfl h1n (gf := 144) (lb := #[.pointer (some ⟨W3.heap.size, 0, none⟩)]) rfl trivial (enters_of Tryd.func144 (by kernel_rfl) rfl)
      (back_stops (n - 1) (by omega) W3.heap.size A5 c5 ks (by omega) w4 hbx4 hro4) (fun h k => kpR_t h k) (kpR_b (by omega) (fun ad hz e => by have := rowat_lt HRO.out hz e; omega)) (Below.refl _ _) (fun _ => rfl)
      (fun p W => It w0 B1 b bt bw gw #[.slice (some ad) ns.length c0, .bool q] (stk ++ p.map (·.2)) W ∧ J (pre ++ [x]) W ∧ Boxed W W3.heap.size 31 (.slice A5 ks.length c5) ∧ (∀ D ∈ Ds, W.heap[D]? = some (.deferred (some []))))
      (fun _ _ _ => False)
      (fun s X Y row hs hg hr => ⟨hs.1.grown hP hg (fun r e => ⟨by have := (hr r e).1; omega, (hr r e).2⟩), hJs _ _ _ row hs.2.1 hg (fun r e => ⟨by have := (hr r e).1; omega, by obtain ⟨o, h1, h2⟩ := (hr r e).2; exact ob_nocells hs.1.ok h1 h2⟩), hs.2.2.1.kept hg (fun e => by have := (hr _ e.symm).1; omega), fun D hD => (hg.block D (Array.getElem?_eq_some_iff.1 (hs.2.2.2 D hD)).1 (fun e => by have := (hr _ e.symm).1; have := (hds4 D hD).2.1; omega)).trans (hs.2.2.2 D hD)⟩)
      (fun _ _ _ _ _ hs _ _ => hs)
      ⟨by simpa using hit4, hj4, hbx4, fun D hD => (hds4 D hD).2.2⟩ ?a1 ?assign ?body ?done ?stop
    case assign =>
      intro l x W K hK
      gi_wp2
      exact hK
    case body =>
      rintro l2 p y W ⟨hiw, hjw, hbw, hdw⟩ hlt
      obtain ⟨v, hv, hrow, hn⟩ := hiw.todo
      obtain ⟨A, c, rfl⟩ := owns_slice hrow
      obtain ⟨i0, hi0, hz0, hz1, hz2⟩ := info_parts infoI
      have hsw := hiw.size
      have hcb := hv.cell
      have hfb := hv.frozen
      have hl3 : (stk ++ p.map (·.2)).length + 1 ≤ 1000000 := by rw [List.length_append, List.length_map]; omega
      generalize hst : stk ++ p.map (·.2) = st at hiw hv hrow hn hl3 hcb hfb
      have HV := Lib.hid hv
      have HW := Lib.hid hrow
      clear hv hrow
      gi_wp2_with (gi_at_builtin; refine wpListIn_append_own_at _ rfl _ _ 31 rfl B1 3 i0 (.int .i64 0) 1 8 Tryd.underlying31 hi0 hz0 hz1 hz2 rfl (by decide) (.slice A st.length c) st.length (ints st) rfl (HW.out.alloc _) ⟨W.heap.size, 0, none⟩ 1 1 [.int .i64 y.2] rfl rfl (cell_one_new _ _ _) (by simp [Value.oneCell']) (by simp only [maxLen]; omega) (by omega) (by simp; omega) ?_; intro v' w1 hown' hgrow _ hat; obtain ⟨g', cap', rfl⟩ := ownsRow_succ hown'; obtain ⟨hv1, hv2, hr2, hk2, hb2⟩ := HV.out.appended (by decide) HW.out hsw ht4 hown' hgrow; have hc1 := hv1.cell; have hf1 := hv1.frozen)
      have hpsh := hiw.push hP HV.out HW.out hn hown' hgrow (by simpa using hat)
      have e1 := World.grownBy_alloc W (.cells #[.int .i64 y.2] 3) none
      have hsw1 := hgrow.size
      simp only [World.size_alloc] at hsw1
      have hnb2 : some b ≠ (Value.slice A st.length c).ownBlock := fun e => by have := (q16 HW.out e.symm).1; omega
      have o1 := q1a e1 (show b < W.heap.size by omega) (by simp)
      have o2 := q1a hgrow (show b < (W.alloc _).heap.size by simp; omega) hnb2
      have k1 := q0q e1 (show b < W.heap.size by omega) (by simp) hiw.ok (fun r e => by cases e)
      have k2 := q0q hgrow (show b < (W.alloc _).heap.size by simp; omega) hnb2 k1 (fun r e => by rw [o1]; exact hn r e)
      refine ⟨hk2.from _, ⟨?_, fun ad2 hz e => hb2.block _ (by have := rowat_lt HRO.out hz e; omega)⟩, ?_, ?_, ?_, fun D hD => hk2.same D _ (hdw D hD) rfl⟩
      · refine Eq.trans ?_ (Eq.symm hbw)
        have h3 : Boxed w1 W3.heap.size 31 (.slice A5 ks.length c5) := (hbw.alloc _).kept hgrow (hbw.not_row (by decide) HW.out)
        exact h3.other (by omega) _
      · rw [List.map_append, ← List.append_assoc, hst]
        exact hpsh
      · exact hJs _ _ _ _ (hJs _ _ _ _ (hJs _ _ _ none hjw e1 (fun _ e => by cases e)) hgrow (fun r e => ⟨(q16 HW.out e).1, by rw [o1]; exact hn r e⟩)) (grownBy_setCell' w1 bt _) (fun r e => by cases e; exact ⟨ht4, ob_other k2 hv1 (by decide)⟩)
      · have h3 : Boxed w1 W3.heap.size 31 (.slice A5 ks.length c5) := (hbw.alloc _).kept hgrow (hbw.not_row (by decide) HW.out)
        exact h3.other (by omega) _
    case done =>
      rintro D xs W hD rfl ⟨hiw, hjw, hbw, hdw⟩ hKD
      rw [dn_snd] at hiw
      gi_wp2
      refine Handed.intro k' (Nat.lt_succ_self _) (hJ' _ _ _ ⟨_, _, _, _, _, _, _, _, _, _, _, _, _, _, _, _, _, _, _, _, _, _, _, _, _, _, _, _, _, _, _, _, _, _, _, _, _, _, _, D :: Ds, pre ++ [x], stk ++ ks.reverse, r, rfl, ⟨List.nodup_cons.2 ⟨fun h => by have := (hds4 D h).2.1; omega, HND.out⟩, fun E hE => ?_, hiw, by rw [List.append_assoc]; exact HALL.out, by rw [List.reverse_append, List.reverse_reverse]; exact HB2.out, hjw⟩⟩)
      rcases List.mem_cons.1 hE with rfl | hE
      · exact ⟨by omega, hKD⟩
      · exact ⟨(hds4 E hE).1, hdw E hE⟩
    case stop =>
      rintro D c p W _ _ h _
      exact h.elim
theorem kpB_t {B0 b : Nat} {U V W : World} (h : KpB B0 b U V) (k : KpB B0 b V W) : KpB B0 b U W := by
  refine ⟨h.bel.trans k.bel, fun g cs t fz hc hb ho => ?_, ?_, fun ho => k.ok (h.ok ho), fun g hg => k.defs g (h.defs g hg)⟩
  · have hv := h.cells g cs t fz hc hb ho
    refine k.cells g cs t fz hv hb ?_
    rcases h.ob with e | ⟨g', e, hlt⟩
    · rw [e]; exact ho
    · rw [e]
      intro e2
      obtain rfl := Option.some.inj e2
      have := (Array.getElem?_eq_some_iff.1 hc).1
      omega
  · rcases k.ob with e | ⟨g', e, hlt⟩
    · rw [e]
      exact h.ob
    · exact .inr ⟨g', e, Nat.le_trans h.bel.size hlt⟩
theorem kpB_put {B0 b L : Nat} {W : World} {r r' : Loop} (hb : b ≠ L) (hL : B0 ≤ L) (h : W.heap[L]? = some (.loop r)) (hbs : b < W.heap.size) : KpB B0 b W (W.putObj L (.loop r')) := by
  have hg := grownBy_putObj' W L (.loop r')
  have hne : some b ≠ some L := fun e => hb (Option.some.inj e)
  refine ⟨(Below.refl B0 W).grown hg (by have := (Array.getElem?_eq_some_iff.1 h).1; omega) (fun k e => by cases e; exact hL), fun g cs t fz hc _ _ => (World.putObj_heap_other (fun e => ?_)).trans hc, .inl (q1a hg hbs hne), fun ho => q0q hg hbs hne ho (fun r e => by cases e; exact ob_nocells ho h rfl), fun g hd => (World.putObj_heap_other (fun e => ?_)).trans hd⟩
  · rw [e, h] at hc; cases hc
  · rw [e, h] at hd; cases hd
set_option maxHeartbeats 2000000 in
theorem range_below {n : Nat} (hn : 6 ≤ n) {g : Operand} {p : Tmp} {assign body : Code} {Q : Exit → Act → World → Prop} {a : Act} {w : World} {b bn bw gw : Nat} (hg : a.eval g = .func (.func 121) #[] #[.pointer (some ⟨bn, 0, none⟩), .pointer (some ⟨bw, 0, none⟩)])
    (root : Int) (w0 : World) (ns : List S43) (A0 : Option Addr) (c0 : Nat) (q : Bool) (hC : Kd.C k43 w0 A0 ns.length ns) (all : List Int) (k0 : Nat) (hk0 : k0 ≤ 1000000) (hall : belR ns k0 [root] = some all)
    (hlo : w0.heap.size ≤ w.heap.size) (hb : b < w.heap.size) (hwb : bw ≠ b) (hgb : gw ≠ b) (hbn : Boxed w bn 3 (.int .i64 root)) (hptr : Boxed w bw 107 (.pointer (some ⟨gw, 0, none⟩))) (hst : w.heap[gw]? = some (.cells #[.slice A0 ns.length c0, .bool q] 116 (0, 0))) (hbel : Below w0.heap.size w0 w) (hok : OutOk w b)
    (I : List Int → World → Prop) (hI : JS w.heap.size b I) (h0 : I [] w) (a₁ : Int → Act)
    (hassign : ∀ (l : Nat) (x : Int) (W : World) (K : Act → World → Prop), K (a₁ x) W → assign.wpIn (Fence.wide.inRound l) (n - 1 - 1) Tryd.prog (Exit.then K (fun _ _ _ => False)) { tmps := ((#[p] : Array Tmp).zip #[Value.int .i64 x]).foldl (fun t (p, v) => t.setIfInBounds p v) a.tmps, defers := [] } W)
    (hbody : ∀ (l : Nat) (pre : List Int) (x : Int) (rest : List Int) (W : World), I pre W → pre ++ x :: rest = all → Below w0.heap.size w0 W → W.heap[gw]? = some (.cells #[.slice A0 ns.length c0, .bool q] 116 (0, 0)) → w.heap.size ≤ W.heap.size →
      body.wpIn (Fence.wide.inRound l) (n - 1 - 1) Tryd.prog (Exit.then (fun _ W' => KeepsFrom w.heap.size W W' ∧ KpB w0.heap.size b W W' ∧ I (pre ++ [x]) W') (fun _ _ _ => False)) (a₁ x) W)
    (hdone : ∀ (D : Nat) (W : World), w.heap.size ≤ D → I all W → W.heap[D]? = some (.deferred (some [])) → Below w0.heap.size w0 W → Q .normal { a with defers := { target := .collected D, args := #[] } :: a.defers } W) :
    (Code.rangeFunc g #[p] assign body).wpIn Fence.wide n Tryd.prog Q a w := by
  have h1 : 1 ≤ n := by omega
  refine wpIn_rangeFunc ?_
  intro fn hfn
  obtain ⟨rec, hrec⟩ : ∃ rec : LoopState → Option Code → Loop, rec = fun st pe => { state := st, pending := pe, fn, tmps := a.tmps, params := #[p], assign, body, defers := w.heap.size } := ⟨_, rfl⟩
  obtain ⟨W1, hW1⟩ : ∃ W1, (w.alloc (.deferred (some []))).alloc (.loop (rec .ready none)) = W1 := ⟨_, rfl⟩
  have g1 := World.grownBy_alloc w (.deferred (some [])) none
  have g2 := World.grownBy_alloc (w.alloc (.deferred (some []))) (.loop (rec .ready none)) none
  have hL1 : W1.heap[w.heap.size + 1]? = some (.loop (rec .ready none)) := by
    rw [← hW1]; have := World.alloc_heap_new (w.alloc (.deferred (some []))) (.loop (rec .ready none)); rwa [World.size_alloc] at this
  have hK1 : W1.heap[w.heap.size]? = some (.deferred (some [])) := by
    rw [← hW1]; exact (Below.heap_alloc _ _ _ (by simp)).trans (World.alloc_heap_new w _)
  have hs1 : W1.heap.size = w.heap.size + 2 := by rw [← hW1]; simp
  have hI1 : I [] W1 := by rw [← hW1]; exact hI _ _ _ none (hI _ _ _ none h0 g1 (fun _ e => by cases e)) g2 (fun _ e => by cases e)
  have hb1 : Below w0.heap.size w0 W1 := by rw [← hW1]; exact (hbel.alloc hlo _).alloc (by simp; omega) _
  have hbn1 : Boxed W1 bn 3 (.int .i64 root) := by rw [← hW1]; exact (hbn.alloc _).alloc _
  have hptr1 : Boxed W1 bw 107 (.pointer (some ⟨gw, 0, none⟩)) := by rw [← hW1]; exact (hptr.alloc _).alloc _
  have hgs := (Array.getElem?_eq_some_iff.1 hst).1
  have hst1 : W1.heap[gw]? = some (.cells #[.slice A0 ns.length c0, .bool q] 116 (0, 0)) := by rw [← hW1]; exact (g2.block gw (by simp; omega) (by simp)).trans ((g1.block gw hgs (by simp)).trans hst)
  have hok1 : OutOk W1 b := by rw [← hW1]; exact q0q g2 (by simp; omega) (by simp) (q0q g1 hb (by simp) hok (fun _ e => by cases e)) (fun _ e => by cases e)
  refine ⟨w.heap.size + 1, [{ target := .collected w.heap.size, args := #[] }], W1, { target := .fn (.func 121) #[.pointer (some ⟨bn, 0, none⟩), .pointer (some ⟨bw, 0, none⟩)], args := #[.func (.yield (w.heap.size + 1)) #[] #[]] }, W1, 121,
    #[.func (.yield (w.heap.size + 1)) #[] #[]] ++ #[.pointer (some ⟨bn, 0, none⟩), .pointer (some ⟨bw, 0, none⟩)], W1, ?_, ?_, ?_, ?_, fun _ => h1, ?_⟩
  · rw [← hW1, hrec]; exact run_enterLoop_outer _ _ _ _ _
  · simp only [resolve, hg]
    simp [go_sem]
  · intro f' hf'; trivial
  · have eg := enters_of Tryd.func121 (by kernel_rfl) rfl
    simp [invoke, go_sem]
  · refine CallsIn.mono (below1_in (n - 1) (by omega) (w.heap.size + 1) b bn bw gw root w0 ns A0 c0 q hC
      (fun pre W => I pre W ∧ W.heap[w.heap.size + 1]? = some (.loop (rec .ready none)) ∧ W.heap[w.heap.size]? = some (.deferred (some [])) ∧ Below w0.heap.size w0 W ∧ W.heap[gw]? = some (.cells #[.slice A0 ns.length c0, .bool q] 116 (0, 0)) ∧ b < W.heap.size ∧ OutOk W b) all k0 hk0 hall W1 (by omega) (by omega) hwb hgb
      ?_ ?_ hbn1 hptr1 hst1 hb1 hok1 ⟨hI1, hL1, hK1, hb1, hst1, by omega, hok1⟩) ?_
    · rintro s X Y row ⟨hs, hl, hk, hbe, hgw, hbs, hoo⟩ hgr hr
      have ne : ∀ k, k < W1.heap.size → some k ≠ row := fun k hk e => by have := (hr k e.symm).1; omega
      have lt : ∀ {k : Nat} {o : Obj}, X.heap[k]? = some o → k < X.heap.size := fun hc => (Array.getElem?_eq_some_iff.1 hc).1
      exact ⟨hI _ _ _ row hs hgr (fun r e => ⟨by have := (hr r e).1; omega, (hr r e).2⟩), (hgr.block _ (lt hl) (ne _ (by omega))).trans hl, (hgr.block _ (lt hk) (ne _ (by omega))).trans hk, hbe.grown hgr hbe.size (fun r e => by have := (hr r e).1; omega), (hgr.block _ (lt hgw) (ne _ (by omega))).trans hgw, Nat.lt_of_lt_of_le hbs hgr.size, q0q hgr hbs (ne _ (by omega)) hoo (fun r e => (hr r e).2)⟩
    · rintro pre x rest W ⟨hi, hl, hk, hbe, hgw, hbs, hoo⟩ hpa
      have hlt : w.heap.size + 1 < W.heap.size := (Array.getElem?_eq_some_iff.1 hl).1
      have hy := run_yield (P := Tryd.prog) (args := #[.int .i64 x]) hl (by rw [hrec]; rfl)
      rw [hrec] at hy
      refine ⟨fn, _, assign, body, hy, roundIn_of_wpIn hfn (hassign _ x W _ ⟨_, run_beginRound hl (by rw [hrec]), ?_⟩)⟩
      have hl2 : (W.putObj (w.heap.size + 1) (.loop { rec .ready none with state := .busy })).heap[w.heap.size + 1]? = some (.loop { rec .ready none with state := .busy }) := World.putObj_heap_same hlt
      have hk2 : (W.putObj (w.heap.size + 1) (.loop { rec .ready none with state := .busy })).heap[w.heap.size]? = some (.deferred (some [])) := (World.putObj_heap_other (by omega)).trans hk
      have hw2 := kpB_put (B0 := w0.heap.size) (r' := { rec .ready none with state := .busy }) (show b ≠ w.heap.size + 1 by omega) (by omega) hl hbs
      have hg2 := grownBy_putObj' W (w.heap.size + 1) (.loop { rec .ready none with state := .busy })
      refine wpIn_mono (hbody _ pre x rest _ (hI _ _ _ _ hi hg2 (fun r e => by cases e; exact ⟨by omega, ob_nocells hoo hl rfl⟩)) hpa (hbe.trans hw2.bel) ((World.putObj_heap_other (by omega)).trans hgw) (Nat.le_trans (by omega) hg2.size)) ?_
      rintro e a3 W3 hp
      cases e with
      | normal =>
        obtain ⟨hk3, hkp3, hi3⟩ := hp
        have hl3 := hk3.same _ _ (by omega) hl2 rfl
        have hd3 := hk3.same _ _ (Nat.le_refl _) hk2 rfl
        have hr3 := run_endRound (P := Tryd.prog) none hl3
        rw [hrec] at hr3
        have hb3 : b < W3.heap.size := Nat.lt_of_lt_of_le (Nat.lt_of_lt_of_le hbs hw2.bel.size) hkp3.bel.size
        have hg3 := grownBy_putObj' W3 (w.heap.size + 1) (.loop (rec .ready none))
        have ho3 := hkp3.ok (hw2.ok hoo)
        have hkw := kpB_put (B0 := w0.heap.size) (r' := rec .ready none) (show b ≠ w.heap.size + 1 by omega) (by omega) hl3 hb3
        have hgw2 : (W.putObj (w.heap.size + 1) (.loop { rec .ready none with state := .busy })).heap[gw]? = _ := (World.putObj_heap_other (by omega)).trans hgw
        have hgw3 := hkp3.cells _ _ _ _ hgw2 hgb (ob_other (hw2.ok hoo) hgw2 (by decide))
        rw [hrec] at hl3 hkw hg3
        refine ⟨_, _, hr3, rfl, ⟨?_, ?_, ?_, ?_, ?_, ?_, ?_⟩, ?_⟩
        · exact hI _ _ _ _ hi3 hg3 (fun r e => by cases e; exact ⟨by omega, ob_nocells ho3 hl3 rfl⟩)
        · rw [hrec]; exact World.putObj_heap_same (Array.getElem?_eq_some_iff.1 hl3).1
        · exact (World.putObj_heap_other (by omega)).trans hd3
        · exact ((hbe.trans hw2.bel).trans hkp3.bel).trans hkw.bel
        · exact (World.putObj_heap_other (by omega)).trans hgw3
        · exact Nat.lt_of_lt_of_le hb3 hg3.size
        · exact hkw.ok ho3
        · exact kpB_t (kpB_t hw2 hkp3) hkw
      | ret => exact hp.elim
      | exit id => exact hp.elim
      | goto t => exact hp.elim
      | panic ch => exact hp.elim
      | outgrown => exact hp.elim
    · rintro e W2 ⟨⟨v, rfl⟩, hi, hl, hk, hbe, hgw, hbs, hoo⟩
      refine ⟨none, _, by have := run_endLoop (P := Tryd.prog) hl (by rw [hrec]; simp); rw [hrec] at this; exact this, ?_⟩
      exact hdone _ _ (Nat.le_refl _) (hI _ _ _ _ hi (grownBy_putObj' W2 (w.heap.size + 1) _) (fun r e => by cases e; exact ⟨by omega, ob_nocells hoo hl rfl⟩)) ((World.putObj_heap_other (by omega)).trans hk) (hbe.grown (grownBy_putObj' W2 (w.heap.size + 1) _) hbe.size (fun r e => by cases e; omega))
theorem h24' {W : World} {g : Nat} {cs : Array Value} {t : TypeId} (h : W.heap[g]? = some (.cells cs t (0, 0))) (o : Obj) : (W.alloc o).heap[g]? = some (.cells cs t (0, 0)) := ((World.grownBy_alloc W o none).block g (Array.getElem?_eq_some_iff.1 h).1 (by simp)).trans h
theorem two_boxes {w1 : World} (w : World) (cs : Array Value) (t : TypeId) (v : Value) (t2 : TypeId) (hb : Below ((w.alloc (.cells cs t)).alloc (.cells #[v] t2)).heap.size ((w.alloc (.cells cs t)).alloc (.cells #[v] t2)) w1) : w1.heap[w.heap.size]? = some (.cells cs t (0, 0)) ∧ Boxed w1 (w.heap.size + 1) t2 v := by
  have h1 := h24' (World.alloc_heap_new w (.cells cs t)) (.cells #[v] t2)
  have h2 := Boxed.new (w.alloc (.cells cs t)) t2 v
  rw [World.size_alloc] at h2
  exact ⟨(hb.block _ (Array.getElem?_eq_some_iff.1 h1).1).trans h1, (hb.block _ h2.lt).trans h2⟩
set_option maxHeartbeats 1000000 in
theorem below_in (n gw : Nat) (root : Int) (w : World) :
    CallsIn Fence.wide n Tryd.prog 79 #[.pointer (some ⟨gw, 0, none⟩), .int .i64 root] w fun e w' => e = .returned (.func (.func 121) #[] #[.pointer (some ⟨w.heap.size + 1, 0, none⟩), .pointer (some ⟨w.heap.size, 0, none⟩)]) ∧ w' = (w.alloc (.cells #[.pointer (some ⟨gw, 0, none⟩)] 107)).alloc (.cells #[.int .i64 root] 3) := by
  refine callsIn_of_wp Tryd.func79 rfl trivial ?_ rfl
  simp only [Tryd.ntmps79, List.size_toArray, List.length_cons, List.length_nil, Nat.reduceAdd, Nat.reduceSub, Array.replicate_succ, Array.replicate_zero, List.push_toArray, List.append_toArray, List.nil_append, List.cons_append]
  gi_wp2
  go_ret
  exact ⟨by simp, rfl⟩
set_option maxRecDepth 100000 in
set_option maxHeartbeats 2000000 in
theorem keep_in (f0 : Int) (f1 f3 : ByteArray) (v2 : Value) (f4 : Int) (v5 : Value) (n5 : Nat) (inner : List Value) (bk : Nat) (kind : Int) (B : Nat) (W : World) (h5 : W.ownsRow B 3 1 v5 n5 inner) (hk : Boxed W bk 3 (.int .i64 kind)) (hB : B ≤ W.heap.size) (hbk : bk < B) :
    Calls Tryd.prog 28 #[.agg #[.int .i64 f0, .string f1, v2, .string f3, .int .i64 f4, v5], .pointer (some ⟨bk, 0, none⟩)] W fun e W' => e = .returned (.bool (f0 == kind)) ∧ Below B W W' := by
  obtain ⟨A5, c5, rfl⟩ := owns_slice h5
  have hkc := hk.cell
  have hu43 := Tryd.underlying43
  have hk2 := (hk.alloc (.cells #[.int .i64 f0, .string f1, v2, .string f3, .int .i64 f4, .slice A5 n5 c5] 43)).cell
  have hb1 : Below B W (W.alloc (.cells #[.int .i64 f0, .string f1, v2, .string f3, .int .i64 f4, .slice A5 n5 c5] 43)) := (Below.refl B W).alloc hB _
  rcases Nat.eq_zero_or_pos n5 with hn | hn
  · rw [hn] at hk2 hb1 ⊢
    have HB0 := Aside0.mk hb1
    clear h5 hn hB hb1 hk
    go_enter Tryd.func28, Tryd.ntmps28
    go_wp2
    go_ret
    exact ⟨rfl, HB0.out⟩
  · rcases h5.2 with ⟨_, h0⟩ | ⟨g, cap, cur, e5, hgB, hh, hnc, hcm, hsz, ht⟩
    · omega
    obtain ⟨rfl, rfl⟩ : A5 = some ⟨g, 0, none⟩ ∧ c5 = cap := by injection e5 with a b c; exact ⟨a, c⟩
    have hgl := (Array.getElem?_eq_some_iff.1 hh).1
    have hcur : ∃ u, cur[0]? = some u := ⟨cur[0]'(by omega), Array.getElem?_eq_getElem _⟩
    obtain ⟨u, hu⟩ := hcur
    have hc0 : (W.alloc (.cells #[.int .i64 f0, .string f1, v2, .string f3, .int .i64 f4, .slice (some ⟨g, 0, none⟩) n5 c5] 43)).cell? ⟨g, 0, none⟩ = some u := by
      rw [World.cell?_of_block (a := ⟨g, 0, none⟩) ((World.grownBy_alloc W _ none).block g hgl (by simp))]
      simp [World.cell?, hh, hu]
    have hf0 : (W.alloc (.cells #[.int .i64 f0, .string f1, v2, .string f3, .int .i64 f4, .slice (some ⟨g, 0, none⟩) n5 c5] 43)).frozen? ⟨g, 0, none⟩ = false := by
      rw [World.frozen?_of_block (a := ⟨g, 0, none⟩) ((World.grownBy_alloc W _ none).block g hgl (by simp))]
      simp [World.frozen?, hh]
    have hgb : bk ≠ g := by omega
    have hb2 : Below B W ((W.alloc (.cells #[.int .i64 f0, .string f1, v2, .string f3, .int .i64 f4, .slice (some ⟨g, 0, none⟩) n5 c5] 43)).setCell ⟨g, 0, none⟩ (.int .i64 (-9))) := hb1.setCell (p := ⟨g, 0, none⟩) hgB _
    have hk3 := ((hk.alloc (.cells #[.int .i64 f0, .string f1, v2, .string f3, .int .i64 f4, .slice (some ⟨g, 0, none⟩) n5 c5] 43)).other (B' := g) hgb (.int .i64 (-9))).cell
    have hx0 : ((W.alloc (.cells #[.int .i64 f0, .string f1, v2, .string f3, .int .i64 f4, .slice (some ⟨g, 0, none⟩) n5 c5] 43)).setCell ⟨g, 0, none⟩ (.int .i64 (-9))).cell? ⟨W.heap.size, 0, none⟩ = some (.int .i64 f0) := by
      rw [World.cell?_of_block (a := ⟨W.heap.size, 0, none⟩) ((grownBy_setCell' _ g (.int .i64 (-9))).block W.heap.size (by simp) (fun e => by have := Option.some.inj e; omega))]
      exact (q05 (World.alloc_heap_new W _) 0).trans rfl
    have hn1 : (0 : Int) < (n5 : Int) := by omega
    have hn2 : 0 < n5 := hn
    have HB0 := Aside0.mk hb2
    clear h5 hB hb1 hb2 hk e5 hgB hh hnc hcm hsz ht hgl hu hn
    replace hn1 := eq_true hn1
    replace hn2 := eq_true hn2
    go_enter Tryd.func28, Tryd.ntmps28
    go_wp2
    go_ret
    exact ⟨rfl, HB0.out⟩
end Go.Proofs.YthjnallbbhnndaaDoor.Bk
namespace Go.Proofs.YthjnallbbhnndaaDoor.Bk
open Go Go.Proofs.YthjnallbbhnndaaDoor.Short Go.RowKit Go.Shelf Go.Proofs Go.Proofs.YthjnallbbhnndaaDoor.XWs Go.Proofs.YthjnallbbhnndaaDoorW.PrintWords Go.Proofs.YthjnallbbhnndaaDoorW.PrintLast
attribute [local go_sem] Oper.semAt_some
theorem R_of_owns {W : World} {base : Nat} {v : Value} {xs : List Int} (h : W.ownsRow base 3 1 v xs.length (ints xs)) : Kd.R (Kd.int .i64) 3 W base (fun _ => True) v xs := by
  refine ⟨fun _ _ => trivial, ints xs, h, by simp [ints, Kd.int, Kd.scalar], fun j p hp => ?_⟩
  obtain ⟨hj, rfl⟩ := List.getElem?_eq_some_iff.1 hp
  show List.take 1 (List.drop (j * 1) (ints xs)) = [.int .i64 xs[j]]
  rw [Nat.mul_one, List.drop_eq_getElem_cons (by simpa [ints] using hj)]
  simp [ints]
theorem blk_set {w : World} {g i : Nat} {cs : Array Value} {t : TypeId} {fz : Nat × Nat} (h : w.heap[g]? = some (.cells cs t fz)) (v : Value) : (w.setCell ⟨g, i, none⟩ v).heap[g]? = some (.cells (cs.setIfInBounds i v) t fz) := by
  obtain ⟨hlt, hk⟩ := Array.getElem?_eq_some_iff.1 h
  show (w.heap.modify g _)[g]? = _
  rw [Array.getElem?_eq_getElem (by rw [Array.size_modify]; exact hlt), Array.getElem_modify_self, hk]
  rfl
theorem kpB_below {B0 b : Nat} {W W' : World} (h : Below W.heap.size W W') (hB : B0 ≤ W.heap.size) (hb : b < W.heap.size) : KpB B0 b W W' := by
  have hg := grown_of_below h none
  exact ⟨h.mono hB, fun g cs t fz hc _ _ => (h.block g (Array.getElem?_eq_some_iff.1 hc).1).trans hc, .inl (q1a hg hb (by simp)), fun ho => q0q hg hb (by simp) ho (fun r e => by cases e), fun g hd => (h.block g (Array.getElem?_eq_some_iff.1 hd).1).trans hd⟩
theorem kpB_push {B0 n0 b : Nat} {W w1 : World} {v v' : Value} {k : Nat} {xs ys : List Value} {x : Int} (hv : Boxed W b 31 v) (ho : W.ownsRow n0 3 1 v k xs) (hn : n0 ≤ W.heap.size) (hB : n0 ≤ b) (hB0 : B0 ≤ n0) (hown : w1.ownsRow n0 3 1 v' (k + 1) ys) (hg : (W.alloc (.cells #[.int .i64 x] 3)).grownBy w1 v.ownBlock) (hat : v'.ownBlock = v.ownBlock ∨ v'.ownBlock = some (W.heap.size + 1)) :
    KpB B0 b W (w1.setCell ⟨b, 0, none⟩ v') := by
  obtain ⟨k1, k2, k3, k4, k5⟩ := hv.appended (by decide) ho hn hB hown hg
  have e0 := ob_boxed hv
  have e1 := ob_boxed k2
  have gs := grownBy_setCell' w1 b v'
  refine ⟨k5.mono hB0, fun g cs t fz hc hne hob => ?_, ?_, fun _ g hgo => ?_, fun g hd => k4.same g _ hd rfl⟩
  · have h1 : (W.alloc (.cells #[.int .i64 x] 3)).heap[g]? = some (.cells cs t fz) := ((World.grownBy_alloc W _ none).block g (Array.getElem?_eq_some_iff.1 hc).1 (by simp)).trans hc
    have h2 := (hg.block g (Array.getElem?_eq_some_iff.1 h1).1 (fun e => hob (by rw [e0]; exact e.symm))).trans h1
    exact (gs.block g (Array.getElem?_eq_some_iff.1 h2).1 (fun e => hne (Option.some.inj e))).trans h2
  · rcases hat with e | e
    · exact .inl (by rw [e1, e0, e])
    · exact .inr ⟨_, by rw [e1, e], by omega⟩
  · rw [e1] at hgo
    obtain ⟨_, cur, hh⟩ := q16 k3 hgo
    exact ⟨cur, hh⟩
theorem belR_mem {ns : List S43} : ∀ {k : Nat} {T rest : List Int}, belR ns k T = some rest → ∀ x ∈ rest, 0 ≤ x ∧ x < ns.length
  | k, [], rest, h, x, hx => by cases k <;> (obtain rfl : [] = rest := Option.some.inj h; simp at hx)
  | k, n :: t, rest, h, x, hx => by
    obtain ⟨k', r, rfl, h0, h1, rfl, hb⟩ := belR_cons h
    rcases List.mem_cons.1 hx with rfl | hx
    · exact ⟨h0, h1⟩
    · exact belR_mem hb x hx
def ofKind (ns : List S43) (kind : Int) (l : List Int) : List Int := l.filter fun n => (q00 ns n).f0 == kind
theorem ofKind_snoc (ns : List S43) (kind : Int) (l : List Int) (n : Int) : ofKind ns kind (l ++ [n]) = if ((q00 ns n).f0 == kind) = true then ofKind ns kind l ++ [n] else ofKind ns kind l := by
  simp only [ofKind, List.filter_append, List.filter_cons, List.filter_nil]
  split <;> simp_all
theorem ofKind_len (ns : List S43) (kind : Int) (l : List Int) : (ofKind ns kind l).length ≤ l.length := List.length_filter_le _ _
set_option maxRecDepth 100000 in
set_option maxHeartbeats 4000000 in
theorem selS (k : Nat) (A0 : Option Addr) (c0 : Nat) (ns : List S43) (q : Bool) (root kind : Int) (bk : Nat) (w : World) (hC : Kd.C k43 w A0 ns.length ns) (hc0 : ns.length ≤ c0) (hk : Boxed w bk 3 (.int .i64 kind)) (h : walk_check.f k ns q [] = some 0)
    (hr0 : 0 ≤ root) (hr1 : root < ns.length) (all : List Int) (k0 : Nat) (hk0 : k0 ≤ 1000000) (hall : belR ns k0 [root] = some all) (hcl : ∀ x ∈ all, api_Attr_80.f (q00 ns x).f2 = some (q00 ns x).f2 ∧ slices_Clone_int_int.f (q00 ns x).f5 = some (q00 ns x).f5) :
    Calls Tryd.prog 29 #[.agg #[.slice A0 ns.length c0, .bool q], .int .i64 root, .func (.func 28) #[] #[.pointer (some ⟨bk, 0, none⟩)]] w fun e w' => ∃ v, e = .returned (.tuple #[v, .int .i64 0]) ∧ Kd.R (Kd.int .i64) 3 w' w.heap.size (fun _ => True) v (ofKind ns kind all) ∧ Below w.heap.size w w' := by
  have hmm : Tryd.prog.follows .mixedOrders = true := by kernel_rfl
  have hqn : ∀ w, (binOp .eql 44 (.func (.func 28) #[] #[.pointer (some ⟨bk, 0, none⟩)]) .nilFunc).run Tryd.prog w = .ok (.bool false) w := fun w => by kernel_rfl
  have hu24 := Tryd.underlying24
  have HE := Aside0.mk h
  have HR := Aside0.mk hC
  have HCC := Aside0.mk hc0
  have HK := Aside0.mk hk
  have HB := Aside0.mk (Below.refl w.heap.size w)
  have hd0 : decide (root < 0) = false := decide_eq_false (by omega)
  have hd1 : decide (root ≥ (ns.length : Int)) = false := decide_eq_false (by omega)
  have hd2 : decide ((ns.length : Int) ≤ root) = false := decide_eq_false (by omega)
  refine (callsIn_wide (n := 12)).1 ?_
  refine callsIn_of_wp_marks Tryd.func29 rfl trivial ?_ rfl
  simp only [Tryd.ntmps29, List.size_toArray, List.length_cons, List.length_nil, Nat.reduceAdd, Nat.reduceSub, Array.replicate_succ, Array.replicate_zero, List.push_toArray, List.append_toArray, List.nil_append, List.cons_append]
  have hbk := hk.lt
  clear hC hc0 hk h hr0 hr1
  gi_wp2_with (first
    | (refine ⟨trivial, ?_⟩; gi_at_call 70; refine (callsIn_wide.2 (walk_check.calls0 k A0 c0 ns q none 0 [] _ (Kd.C_below HR.out (by repeat (first | exact HB.out | apply q0d | apply q0a | apply q0i))) HCC.out (Kd.C_nil _ _) (by simp) (by simp) HE.out)).mono ?_; rintro e w1 ⟨hb, gw, rfl, hI⟩; obtain ⟨h24, h44⟩ := two_boxes w _ _ _ _ hb; have hc24 := (q05 h24 0).trans rfl; have hc44 := h44.cell; have hx24 := ((h24' h24 (.cells #[.pointer (some ⟨gw, 0, none⟩)] 107))); have hc24b := (q05 hx24 0).trans rfl; have hc44b := (h44.alloc (.cells #[.pointer (some ⟨gw, 0, none⟩)] 107)).cell)
    | (refine ⟨trivial, ?_⟩; gi_at_call 79; refine (below_in _ gw root _).mono ?_; rintro e w2 ⟨rfl, rfl⟩))
  obtain ⟨wb, hwb⟩ : ∃ wb, ((w.alloc (.cells #[.slice A0 ns.length c0, .bool q] 24)).alloc (.cells #[.func (.func 28) #[] #[.pointer (some ⟨bk, 0, none⟩)]] 44)) = wb := ⟨_, rfl⟩
  have hBw : Below w.heap.size w wb := by rw [← hwb]; exact q0d (q0d HB.out _) _
  have hs0 : wb.heap.size = w.heap.size + 2 := by rw [← hwb]; simp
  rw [hwb] at hb hI
  obtain ⟨A1, c1, hgw, hgl, hC1⟩ := hI
  have hs1 := hb.size
  have hgs := (Array.getElem?_eq_some_iff.1 hgw).1
  obtain ⟨W5, hW5⟩ : ∃ W5, ((((w1.alloc (.cells #[.pointer (some ⟨gw, 0, none⟩)] 107)).alloc (.cells #[.slice none 0 0] 31)).alloc (.cells #[.pointer (some ⟨gw, 0, none⟩)] 107)).alloc (.cells #[.int .i64 root] 3)) = W5 := ⟨_, rfl⟩
  have hb5 : Below w1.heap.size w1 W5 := by rw [← hW5]; exact q0d (q0d (q0d (q0d (Below.refl _ _) _) _) _) _
  have hs5 : W5.heap.size = w1.heap.size + 4 := by rw [← hW5]; simp
  have x8 : Boxed W5 w1.heap.size 107 (.pointer (some ⟨gw, 0, none⟩)) := by rw [← hW5]; exact (((Boxed.new w1 _ _).alloc _).alloc _).alloc _
  have xo : Boxed W5 (w1.heap.size + 1) 31 (.slice none 0 0) := by
    rw [← hW5]
    have := ((Boxed.new (w1.alloc (.cells #[.pointer (some ⟨gw, 0, none⟩)] 107)) 31 (.slice none 0 0)).alloc (.cells #[.pointer (some ⟨gw, 0, none⟩)] 107)).alloc (.cells #[.int .i64 root] 3)
    rwa [World.size_alloc] at this
  have xw : Boxed W5 (w1.heap.size + 2) 107 (.pointer (some ⟨gw, 0, none⟩)) := by
    rw [← hW5]
    have := (Boxed.new ((w1.alloc (.cells #[.pointer (some ⟨gw, 0, none⟩)] 107)).alloc (.cells #[.slice none 0 0] 31)) 107 (.pointer (some ⟨gw, 0, none⟩))).alloc (.cells #[.int .i64 root] 3)
    rwa [World.size_alloc, World.size_alloc] at this
  have xn : Boxed W5 (w1.heap.size + 3) 3 (.int .i64 root) := by
    rw [← hW5]
    have := Boxed.new (((w1.alloc (.cells #[.pointer (some ⟨gw, 0, none⟩)] 107)).alloc (.cells #[.slice none 0 0] 31)).alloc (.cells #[.pointer (some ⟨gw, 0, none⟩)] 107)) 3 (.int .i64 root)
    rwa [World.size_alloc, World.size_alloc, World.size_alloc] at this
  have x44 : Boxed W5 (w.heap.size + 1) _ _ := (hb5.block _ h44.lt).trans h44
  have xg : W5.heap[gw]? = _ := (hb5.block _ hgs).trans hgw
  have xk : Boxed W5 bk 3 (.int .i64 kind) := (hb5.block _ (by omega)).trans ((hb.block _ (by omega)).trans ((hBw.block _ hbk).trans HK.out))
  have hBB : Below wb.heap.size wb W5 := hb.trans (hb5.mono hs1)
  have hok : OutOk W5 (w1.heap.size + 1) := fun g hg => by rw [ob_boxed xo] at hg; cases hg
  clear hwb hc24 hc44 hx24 hc24b hc44b h24 h44 hgw
  rw [hW5]
  refine range_below (n := 12) (by decide) (b := w1.heap.size + 1) (bn := w1.heap.size + 3) (bw := w1.heap.size + 2) (gw := gw) rfl root wb ns A1 c1 q hC1 all k0 hk0 hall (by omega) (by omega) (by omega) (by omega) xn xw xg hBB hok
    (fun pre W => (∃ v, Boxed W (w1.heap.size + 1) 31 v ∧ W.ownsRow w1.heap.size 3 1 v (ofKind ns kind pre).length (ints (ofKind ns kind pre))) ∧ Boxed W (w.heap.size + 1) 44 (.func (.func 28) #[] #[.pointer (some ⟨bk, 0, none⟩)]) ∧ Boxed W w1.heap.size 107 (.pointer (some ⟨gw, 0, none⟩)) ∧ Boxed W bk 3 (.int .i64 kind))
    ?hI ⟨⟨_, xo, own_nil _ _ _ _⟩, x44, x8, xk⟩ ?a1 ?assign ?body ?done
  case hI =>
    rintro s X Y row ⟨⟨v, hv, ho⟩, h1, h2, h3⟩ hg hr
    have ne : ∀ k, k < W5.heap.size → some k ≠ row := fun k hk e => by have := (hr k e.symm).1; omega
    exact ⟨⟨v, hv.kept hg (ne _ (by omega)), ho.kept hg (by
      cases hvb : v.ownBlock with
      | none => exact .inl rfl
      | some g => exact .inr fun e => (hr g e.symm).2 (by rw [ob_boxed hv, hvb]))⟩, h1.kept hg (ne _ (by omega)), h2.kept hg (ne _ (by omega)), h3.kept hg (ne _ (by omega))⟩
  case assign =>
    intro l x W K hK
    gi_wp2
    exact hK
  case body =>
    rintro l pre x rest W ⟨⟨v, hv, ho⟩, h44, h8, hk⟩ hpa hbe hgw hsz
    have hx := belR_mem hall x (by rw [← hpa]; simp)
    have hp8 := h8.cell
    have hg0 : W.cell? ⟨gw, 0, none⟩ = some (.slice A1 ns.length c1) := (q05 hgw 0).trans rfl
    obtain ⟨ad, A2, c2, A5, c5, hA, x0, x1, x2, x3, x4, x5, l2, C2, l5, C5⟩ := at_T43 hC1 x hx.1 hx.2
    subst hA
    replace x0 := (hbe.cell (World.block_lt_of_cell? wb _ x0)).trans x0
    replace x1 := (hbe.cell (World.block_lt_of_cell? wb _ x1)).trans x1
    replace x2 := (hbe.cell (World.block_lt_of_cell? wb _ x2)).trans x2
    replace x3 := (hbe.cell (World.block_lt_of_cell? wb _ x3)).trans x3
    replace x4 := (hbe.cell (World.block_lt_of_cell? wb _ x4)).trans x4
    replace x5 := (hbe.cell (World.block_lt_of_cell? wb _ x5)).trans x5
    have HX0 := eq_true hx.1
    have HX1 := eq_true hx.2
    have HC2 := Aside0.mk (Kd.C_below C2 hbe)
    have HC5 := Aside0.mk (Kd.C_below C5 hbe)
    have HL2 := Aside0.mk l2
    have HL5 := Aside0.mk l5
    have HV := Aside0.mk hv
    have HO := Aside0.mk ho
    have H44 := Aside0.mk h44
    have H8 := Aside0.mk h8
    have HKK := Aside0.mk hk
    obtain ⟨hcl2, hcl5⟩ := hcl x (by rw [← hpa]; simp)
    have HCL2 := Aside0.mk hcl2
    have HCL5 := Aside0.mk hcl5
    clear C2 C5 l2 l5 hv ho h44 h8 hk hC1 hcl2 hcl5 hcl
    generalize hnd : q00 ns x = nd at *
    obtain ⟨f0, f1, f2, f3, f4, f5⟩ := nd
    dsimp only at x0 x1 x2 x3 x4 x5 HC2 HC5 HL2 HL5 HCL2 HCL5
    gi_wp2
    obtain ⟨Wx, hWx⟩ : ∃ Wx, W.alloc (.cells #[.int .i64 f0, .string f1, .slice A2 f2.length c2, .string f3, .int .i64 f4, .slice A5 f5.length c5] 43) = Wx := ⟨_, rfl⟩
    obtain ⟨gx, hgx⟩ : ∃ gx, W.heap.size = gx := ⟨_, rfl⟩
    have BK : Aside0 (Wx.heap[gx]? = some (.cells #[.int .i64 f0, .string f1, .slice A2 f2.length c2, .string f3, .int .i64 f4, .slice A5 f5.length c5] 43 (0, 0))) := ⟨by rw [← hWx, ← hgx]; exact World.alloc_heap_new W _⟩
    have HBx : Aside0 (Below W.heap.size W Wx) := ⟨by rw [← hWx]; exact q0d (Below.refl _ _) _⟩
    have HX2 := Aside0.mk (Kd.C_below HC2.out HBx.out)
    have HX5 := Aside0.mk (Kd.C_below HC5.out HBx.out)
    have HBC := Aside0.mk (Below.refl Wx.heap.size Wx)
    have HWS := Aside0.mk hgx
    rw [hWx, hgx]
    clear hWx hgx x0 x1 x2 x3 x4 x5 hp8 hg0 HC2 HC5 HX0 HX1
    obtain ⟨y0, y1, y2, y3, y4, y5, -, -, z2, -, -, z5⟩ := bk6 BK.out
    gi_region_with_o (first
      | (refine ⟨trivial, ?_⟩; gi_at_call 80; refine (CallsIn.inRound l (callsIn_wide.2 (api_Attr_80.calls A2 c2 f2 f2 _ (Kd.C_below HX2.out (by repeat (first | exact HBC.out | apply q0d | apply q0a | apply q0i))) HL2.out HCL2.out))).mono ?_; rintro e wa ⟨v2, rfl, ho2, hb2⟩; obtain ⟨a2, n2, rfl⟩ := Kd.R_slice ho2; have n0_ := Aside0.mk (q01 (by repeat (first | exact HBC.out | apply q0d | apply q0a | apply q0i)) hb2); clear HBC; have HBC := n0_; clear n0_; have n1_ := Aside0.mk ((hb2.block _ (q13 BK.out)).trans BK.out); clear BK; have BK := n1_; clear n1_; clear y0 y1 y2 y3 y4 y5 z2 z5; obtain ⟨y0, y1, y2, y3, y4, y5, -, -, z2, -, -, z5⟩ := bk6 BK.out)
      | (refine ⟨trivial, ?_⟩; gi_at_call 81; refine (CallsIn.inRound l (callsIn_wide.2 (slices_Clone_int_int.calls A5 c5 f5 f5 _ (Kd.C_below HX5.out (by repeat (first | exact HBC.out | apply q0d | apply q0a | apply q0i))) HL5.out HCL5.out))).mono ?_; rintro e wc ⟨v5, rfl, ho5, hb5'⟩; obtain ⟨a5, n5, rfl⟩ := Kd.R_slice ho5; obtain ⟨inn, ho5'⟩ := Kd.R_own ho5; have HO5 := Aside0.mk (own_weaken ho5' (Nat.le_trans HBx.out.size (Below.size (by repeat (first | exact HBC.out | apply q0d | apply q0a | apply q0i))))); clear ho5'; have n0_ := Aside0.mk (q01 (by repeat (first | exact HBC.out | apply q0d | apply q0a | apply q0i)) hb5'); clear HBC; have HBC := n0_; clear n0_; have n1_ := Aside0.mk ((hb5'.block _ (q13 BK.out)).trans BK.out); clear BK; have BK := n1_; clear n1_; clear y0 y1 y2 y3 y4 y5 z2 z5; obtain ⟨y0, y1, y2, y3, y4, y5, -, -, z2, -, -, z5⟩ := bk6 BK.out))
    all_goals
      have hne5 := Kd.R_ne ho5 BK.out (by decide)
      have hgx := HWS.out
      have ho6 := own_setCell (own_setCell HO5.out (p := ⟨gx, 2, none⟩) hne5 (.slice a2 f2.length n2)) (p := ⟨gx, 5, none⟩) hne5 (.slice a5 f5.length n5)
      have hbk6 := blk_set (i := 5) (blk_set (i := 2) BK.out (.slice a2 f2.length n2)) (.slice a5 f5.length n5)
      have hbe6 : Below W.heap.size W ((wc.setCell ⟨gx, 2, none⟩ (.slice a2 f2.length n2)).setCell ⟨gx, 5, none⟩ (.slice a5 f5.length n5)) := ((HBx.out.trans (HBC.out.mono HBx.out.size)).setCell (p := ⟨gx, 2, none⟩) (by rw [hgx]; exact Nat.le_refl _) _).setCell (p := ⟨gx, 5, none⟩) (by rw [hgx]; exact Nat.le_refl _) _
      generalize ((wc.setCell ⟨gx, 2, none⟩ (.slice a2 f2.length n2)).setCell ⟨gx, 5, none⟩ (.slice a5 f5.length n5)) = Wf at ho6 hbk6 hbe6 ⊢
      clear hne5 ho5 HO5 y0 y1 y2 y3 y4 y5 z2 z5 BK HBC HX2 HX5 HBx
      obtain ⟨y0, y1, y2, y3, y4, y5, -, -, -, -, -, -⟩ := bk6 hbk6
      have hbw : bk < W.heap.size := HKK.out.lt
      have hk6 : Boxed Wf bk 3 (.int .i64 kind) := (hbe6.block _ hbw).trans HKK.out
      have h46 : Boxed Wf (w.heap.size + 1) 44 (.func (.func 28) #[] #[.pointer (some ⟨bk, 0, none⟩)]) := (hbe6.block _ H44.out.lt).trans H44.out
      have hc46 := h46.cell
      have HO6 := Aside0.mk ho6
      have HK6 := Aside0.mk hk6
      have HB6 := Aside0.mk hbe6
      have HBW := Aside0.mk hbw
      clear ho6 hk6 hbe6 h46 hbk6 hbw hgx
      have hsW := hsz
      have hs50 := hs5
      by_cases hkd : (f0 == kind) = true
      · have hle : (ofKind ns kind pre).length + 1 ≤ 1000000 := by
          have h1 := ofKind_len ns kind pre
          have h2 := Nat.le_trans (belR_len hall).2 hk0
          rw [← hpa] at h2
          simp only [List.length_append, List.length_cons] at h2
          omega
        obtain ⟨i0, hi0, hz0, hz1, hz2⟩ := info_parts infoI
        gi_wp2_with (first
          | (refine ⟨trivial, ?_⟩; gi_at_call 28; refine (CallsIn.inRound l (callsIn_wide.2 (keep_in f0 f1 f3 _ f4 _ _ _ bk kind W.heap.size _ HO6.out HK6.out HB6.out.size HBW.out))).mono ?_; rintro e wk ⟨rfl, hbk⟩; rw [hkd]; have HBK := Aside0.mk (HB6.out.trans hbk); clear hbk; have hvk : Boxed wk (w1.heap.size + 1) 31 v := (HBK.out.block _ HV.out.lt).trans HV.out; have hok := pw_own_below HO.out HBK.out; obtain ⟨A9, c9, rfl⟩ := owns_slice hok; have hcv := hvk.cell; have hfv := hvk.frozen; have HVK := Aside0.mk hvk; have HOK := Aside0.mk hok; have hszk := HBK.out.size; clear hvk hok)
          | (gi_at_builtin; refine wpListIn_append_own_at _ rfl _ _ 31 rfl w1.heap.size 3 i0 (.int .i64 0) 1 8 Tryd.underlying31 hi0 hz0 hz1 hz2 rfl (by decide) (.slice A9 (ofKind ns kind pre).length c9) (ofKind ns kind pre).length (ints (ofKind ns kind pre)) rfl (HOK.out.alloc _) ⟨wk.heap.size, 0, none⟩ 1 1 [.int .i64 x] rfl rfl (cell_one_new _ _ _) (by simp [Value.oneCell']) (by simp only [maxLen]; omega) (by omega) (by simp; omega) ?_; intro v' w1' hown' hgrow _ hat; obtain ⟨g', cap', rfl⟩ := ownsRow_succ hown'; obtain ⟨hv1, hv2, hr2, hk2, hb2⟩ := HVK.out.appended (by decide) HOK.out (by omega) (by omega) hown' hgrow; have hc1 := hv1.cell; have hf1 := hv1.frozen; have HHV := Aside0.mk hv2; have HHR := Aside0.mk hr2; have HHK := Aside0.mk hk2; have HHB := Aside0.mk hb2; have HKP := Aside0.mk (kpB_push (B0 := wb.heap.size) HVK.out HOK.out (by omega) (by omega) (by omega) hown' hgrow (by simpa using hat)); clear hv2 hr2 hk2 hb2 hat hgrow hown' hv1))
        have hOk : OutOk wk (w1.heap.size + 1) := fun g hg => by rw [ob_boxed HVK.out] at hg; exact (q16 HOK.out hg).2
        have h8k : Boxed wk w1.heap.size 107 (.pointer (some ⟨gw, 0, none⟩)) := (HBK.out.block _ H8.out.lt).trans H8.out
        have h44k := (HBK.out.block _ H44.out.lt).trans H44.out
        have hkk := (HBK.out.block _ HBW.out).trans HKK.out
        refine ⟨KeepsFrom.trans ⟨HBK.out.size, fun k o _ hk _ => (HBK.out.block k (Array.getElem?_eq_some_iff.1 hk).1).trans hk⟩ (HHK.out.from _), kpB_t (kpB_below HBK.out (by omega) HV.out.lt) HKP.out, ⟨_, HHV.out, ?_⟩, (HHB.out.block _ (by omega)).trans h44k, HKP.out.cells _ _ _ _ h8k (by omega) (ob_other hOk h8k (by decide)), (HHB.out.block _ (by omega)).trans hkk⟩
        rw [ofKind_snoc, hnd, if_pos hkd, List.length_append]
        simpa [ints] using HHR.out
      · rw [Bool.not_eq_true] at hkd
        gi_wp2_with (refine ⟨trivial, ?_⟩; gi_at_call 28; refine (CallsIn.inRound l (callsIn_wide.2 (keep_in f0 f1 f3 _ f4 _ _ _ bk kind W.heap.size _ HO6.out HK6.out HB6.out.size HBW.out))).mono ?_; rintro e wk ⟨rfl, hbk⟩; rw [hkd])
        have hB := HB6.out.trans hbk
        refine ⟨⟨hB.size, fun k o _ hk _ => (hB.block k (Array.getElem?_eq_some_iff.1 hk).1).trans hk⟩, kpB_below hB (by omega) HV.out.lt, ⟨v, (hB.block _ HV.out.lt).trans HV.out, ?_⟩, (hB.block _ H44.out.lt).trans H44.out, (hB.block _ H8.out.lt).trans H8.out, (hB.block _ HBW.out).trans HKK.out⟩
        rw [ofKind_snoc, hnd, if_neg (by rw [hkd]; decide)]
        exact pw_own_below HO.out hB
  case done =>
    rintro D W hD ⟨⟨v, hv, ho⟩, h44, h8, hk⟩ hKD hbe
    have hvc := hv.cell
    obtain ⟨A9, c9, rfl⟩ := owns_slice ho
    gi_wp2
    refine ⟨by simp, .inl ⟨_, _, rfl, run_takeDeferred hKD, ?_⟩⟩
    exact ⟨_, results_tmp2 rfl _ _ _, ⟨_, rfl, R_of_owns (own_weaken (ownsRow_putObj ho _ hKD rfl) (by omega)), (hBw.trans (hbe.mono (by omega))).grown (grownBy_putObj' W D _) (by have := hbe.size; omega) (fun r e => by cases e; omega)⟩⟩
end Go.Proofs.YthjnallbbhnndaaDoor.Bk
namespace Go.Proofs.YthjnallbbhnndaaDoor.Bk
open Go Go.Proofs.YthjnallbbhnndaaDoor.Short Go.RowKit Go.Shelf Go.Proofs Go.Proofs.YthjnallbbhnndaaDoor.XWs Go.Proofs.YthjnallbbhnndaaDoorW.PrintWords Go.Proofs.YthjnallbbhnndaaDoorW.PrintLast
def kvF (bk : Nat) : Bool → Value
  | true => .nilFunc
  | false => .func (.func 28) #[] #[.pointer (some ⟨bk, 0, none⟩)]
set_option maxRecDepth 100000 in
set_option maxHeartbeats 8000000 in
theorem selE (k : Nat) (A0 : Option Addr) (c0 : Nat) (ns : List S43) (q : Bool) (root : Int) (bk : Nat) (nil_ : Bool) (e0 er : Int) (w : World) (hC : Kd.C k43 w A0 ns.length ns) (hc0 : ns.length ≤ c0) (h : walk_check.f k ns q [] = some e0)
    (hw : (e0 ≠ 0 ∧ er = e0) ∨ (e0 = 0 ∧ (root < 0 ∨ root ≥ ns.length) ∧ er = 1) ∨ (e0 = 0 ∧ 0 ≤ root ∧ root < ns.length ∧ nil_ = true ∧ er = 9)) :
    Calls Tryd.prog 29 #[.agg #[.slice A0 ns.length c0, .bool q], .int .i64 root, kvF bk nil_] w fun e w' => e = .returned (.tuple #[.slice none 0 0, .int .i64 er]) ∧ Below w.heap.size w w' := by
  have hmm : Tryd.prog.follows .mixedOrders = true := by kernel_rfl
  have hqn : ∀ w, (binOp .eql 44 .nilFunc .nilFunc).run Tryd.prog w = .ok (.bool true) w := fun w => by kernel_rfl
  have hu24 := Tryd.underlying24
  have HE := Aside0.mk h
  have HR := Aside0.mk hC
  have HCC := Aside0.mk hc0
  have HB := Aside0.mk (Below.refl w.heap.size w)
  clear hC hc0 h
  rcases hw with ⟨z0, rfl⟩ | ⟨rfl, ho, rfl⟩ | ⟨rfl, h0, h1, rfl, rfl⟩
  · have z0b : (er != 0) = true := bne_iff_ne.mpr z0
    have Z0 := Aside0.mk z0
    clear z0
    cases nil_ <;> simp only [kvF]
    all_goals
      go_enter Tryd.func29, Tryd.ntmps29
      go_wp2_with (go_at_call 70; refine (walk_check.callsE k A0 c0 ns q none 0 [] er Z0.out _ (Kd.C_below HR.out (by repeat (first | exact HB.out | apply q0d | apply q0a | apply q0i))) HCC.out (Kd.C_nil _ _) (by simp) (by simp) HE.out).mono ?_; rintro e w1 ⟨hb, rfl⟩; have n_ := Aside0.mk (q01 (by repeat (first | exact HB.out | apply q0d | apply q0a | apply q0i)) hb); clear HB hb; have HB := n_; clear n_)
      go_ret2
      exact ⟨rfl, by repeat (first | exact HB.out | apply q0d | apply q0a | apply q0i)⟩
  · cases nil_ <;> simp only [kvF]
    all_goals
      by_cases hn : root < 0
      · have d0 : decide (root < 0) = true := decide_eq_true hn
        clear ho hn
        go_enter Tryd.func29, Tryd.ntmps29
        go_wp2_with (go_at_call 70; refine (walk_check.calls0 k A0 c0 ns q none 0 [] _ (Kd.C_below HR.out (by repeat (first | exact HB.out | apply q0d | apply q0a | apply q0i))) HCC.out (Kd.C_nil _ _) (by simp) (by simp) HE.out).mono ?_; rintro e w1 ⟨hb, gw, rfl, hI⟩; clear hI; obtain ⟨h24, h44⟩ := two_boxes w _ _ _ _ hb; have hx24 := h24' h24 (.cells #[.pointer (some ⟨gw, 0, none⟩)] 107); have hc24b := (q05 hx24 0).trans rfl; have hc44b := (h44.alloc (.cells #[.pointer (some ⟨gw, 0, none⟩)] 107)).cell; have n_ := Aside0.mk (q01 (by repeat (first | exact HB.out | apply q0d | apply q0a | apply q0i)) hb); clear HB hb; have HB := n_; clear n_)
        go_ret2
        exact ⟨rfl, by repeat (first | exact HB.out | apply q0d | apply q0a | apply q0i)⟩
      · have hn2 : root ≥ (ns.length : Int) := ho.resolve_left hn
        have d0 : decide (root < 0) = false := decide_eq_false hn
        have d1 : decide ((ns.length : Int) ≤ root) = true := decide_eq_true hn2
        clear ho hn hn2
        go_enter Tryd.func29, Tryd.ntmps29
        go_wp2_with (go_at_call 70; refine (walk_check.calls0 k A0 c0 ns q none 0 [] _ (Kd.C_below HR.out (by repeat (first | exact HB.out | apply q0d | apply q0a | apply q0i))) HCC.out (Kd.C_nil _ _) (by simp) (by simp) HE.out).mono ?_; rintro e w1 ⟨hb, gw, rfl, hI⟩; clear hI; obtain ⟨h24, h44⟩ := two_boxes w _ _ _ _ hb; have hx24 := h24' h24 (.cells #[.pointer (some ⟨gw, 0, none⟩)] 107); have hc24b := (q05 hx24 0).trans rfl; have hc44b := (h44.alloc (.cells #[.pointer (some ⟨gw, 0, none⟩)] 107)).cell; have n_ := Aside0.mk (q01 (by repeat (first | exact HB.out | apply q0d | apply q0a | apply q0i)) hb); clear HB hb; have HB := n_; clear n_)
        go_ret2
        exact ⟨rfl, by repeat (first | exact HB.out | apply q0d | apply q0a | apply q0i)⟩
  · have d0 : decide (root < 0) = false := decide_eq_false (by omega)
    have d1 : decide ((ns.length : Int) ≤ root) = false := decide_eq_false (by omega)
    clear h0 h1
    simp only [kvF]
    go_enter Tryd.func29, Tryd.ntmps29
    go_wp2_with (go_at_call 70; refine (walk_check.calls0 k A0 c0 ns q none 0 [] _ (Kd.C_below HR.out (by repeat (first | exact HB.out | apply q0d | apply q0a | apply q0i))) HCC.out (Kd.C_nil _ _) (by simp) (by simp) HE.out).mono ?_; rintro e w1 ⟨hb, gw, rfl, hI⟩; clear hI; obtain ⟨h24, h44⟩ := two_boxes w _ _ _ _ hb; have hx24 := h24' h24 (.cells #[.pointer (some ⟨gw, 0, none⟩)] 107); have hc24b := (q05 hx24 0).trans rfl; have hc44b := (h44.alloc (.cells #[.pointer (some ⟨gw, 0, none⟩)] 107)).cell; have n_ := Aside0.mk (q01 (by repeat (first | exact HB.out | apply q0d | apply q0a | apply q0i)) hb); clear HB hb; have HB := n_; clear n_)
    go_ret2
    exact ⟨rfl, by repeat (first | exact HB.out | apply q0d | apply q0a | apply q0i)⟩
end Go.Proofs.YthjnallbbhnndaaDoor.Bk
namespace Go.Proofs.YthjnallbbhnndaaDoor.XWs
open Go.Proofs.YthjnallbbhnndaaDoor.Short Go.RowKit Go.Proofs.YthjnallbbhnndaaDoorW.PrintWords Go.Proofs.YthjnallbbhnndaaDoorW.PrintLast Go.Proofs.YthjnallbbhnndaaDoorW.PrintMore Go.Proofs Go.Proofs.YthjnallbbhnndaaDoor
set_option linter.unusedVariables false
set_option linter.unusedSimpArgs false
theorem k122_heap : Kd.Heap k122 := Kd.heap_iso _ (Kd.heap_pair Kd.heap_string Kd.heap_string)
theorem k43_heap : Kd.Heap k43 := Kd.heap_iso _ (Kd.heap_pair (Kd.heap_int .i64) (Kd.heap_pair Kd.heap_string (Kd.heap_pair (Kd.heap_slice 122 k122_heap) (Kd.heap_pair Kd.heap_string (Kd.heap_pair (Kd.heap_int .i64) (Kd.heap_slice 3 (Kd.heap_int .i64)))))))
def clOk (ns : List S43) (x : Int) : Bool := decide ((q00 ns x).f2.length * 32 ≤ 140737488355328) && decide ((q00 ns x).f5.length * 8 ≤ 140737488355328)
theorem clOk_two {ns : List S43} {x : Int} (h : clOk ns x = true) : api_Attr_80.f (q00 ns x).f2 = some (q00 ns x).f2 ∧ slices_Clone_int_int.f (q00 ns x).f5 = some (q00 ns x).f5 := by
  unfold clOk at h
  rw [Bool.and_eq_true, decide_eq_true_eq, decide_eq_true_eq] at h
  exact ⟨by unfold api_Attr_80.f; rw [if_pos h.1], by unfold slices_Clone_int_int.f; rw [if_pos h.2]⟩
theorem ws_w {i : Nat} (h : i < 100000) : wrap64 ((i : Int) + 1) = ((i + 1 : Nat) : Int) := by unfold wrap64; omega
theorem ws_meas {n i : Nat} (h : i < n) : n - (i + 1) < n - i := by omega
theorem ws_len {n : Nat} (h : n ≤ 1000) : n + 1 ≤ maxLen ∧ (n + 1) * 8 ≤ 140737488355328 := by simp only [maxLen]; omega
theorem ws_box {P : Program} {ops : Array Oper} {Q : Exit → Act → World → Prop} {rest : List Oper} {o : Oper} {a : Act} {W : World} (hgd : o.guard = none) {N : Tmp} (_hd : o.dst = some N) {cs : Array Value} {t : TypeId}
    (hrun : (execOp a.eval o).run P W = .ok (.value (.pointer (some ⟨W.heap.size, 0, none⟩))) (W.alloc (.cells cs t (0, 0))))
    (h : ∀ g w1, Aside0 (w1.heap[g]? = some (.cells cs t (0, 0))) → Aside0 (W.heap.size ≤ g) → Aside0 (Below W.heap.size W w1) → wpList P ops Q rest (a.put o.dst (.pointer (some ⟨g, 0, none⟩))) w1) : wpList P ops Q (o :: rest) a W :=
  q0n hgd _hd hrun fun g hg w1 hb hs => h g w1 ⟨hb⟩ ⟨by rw [hg]; exact Nat.le_refl _⟩ ⟨hs⟩
def clerestorylaw1_WalkSelects.f (k : Nat) (l0 : List S43) (q : Bool) (root kind : Int) (nil_ : Bool) : Option Bool :=
  (clerestorylaw1_few.f l0 q 60).bind fun n => (clerestoryref1_DocErr.f k n.1 n.2).bind fun W => (walk_check.f k n.1 n.2 []).bind fun C => (clerestorylaw1_walkBegun.f k).bind fun g => if g = true ∧ C = W then
    (if W ≠ 0 ∨ (root < 0 ∨ root ≥ n.1.length) ∨ nil_ = true then (clerestoryref1_SameInts.f k [] []).bind fun s => if s = true then some true else none
     else (Bk.belR n.1 1000 [root]).bind fun all => (clerestoryref1_Below.f k n.1 n.2 root).bind fun bl => if bl = all ∧ all.all (clOk n.1) = true then (clerestoryref1_SameInts.f k (Bk.ofKind n.1 kind all) (Bk.ofKind n.1 kind all)).bind fun s => if s = true then some true else none else none) else none
set_option maxHeartbeats 16000000 in
set_option maxRecDepth 100000 in
theorem clerestorylaw1_WalkSelects.calls (k : Nat) (A0 : Option Addr) (c0 : Nat) (l0 : List S43) (q : Bool) (root kind : Int) (nil_ : Bool) (r : Bool) (w : World) (hr0 : Kd.C k43 w A0 l0.length l0) (hc0 : l0.length ≤ c0) (h : clerestorylaw1_WalkSelects.f k l0 q root kind nil_ = some r) :
    Calls Tryd.prog 5 #[.agg #[.slice A0 l0.length c0, .bool q], .int .i64 root, .int .i64 kind, .bool nil_] w fun e w' => e = .returned (.bool r) ∧ Below w.heap.size w w' := by
  have hu24 := Tryd.underlying24
  have hmm : Tryd.prog.follows .mixedOrders = true := by kernel_rfl
  have HC := Aside0.mk hr0
  have HL := Aside0.mk hc0
  have HB := Aside0.mk (Below.refl w.heap.size w)
  clear hr0 hc0
  unfold clerestorylaw1_WalkSelects.f at h
  obtain ⟨⟨p1, p2⟩, hf, h⟩ := Option.bind_eq_some_iff.1 h
  have HF := Aside0.mk hf
  obtain ⟨W, hW, h⟩ := Option.bind_eq_some_iff.1 h
  have HW : Aside0 (clerestoryref1_DocErr.f k p1 p2 = some W) := ⟨hW⟩
  obtain ⟨C, hC, h⟩ := Option.bind_eq_some_iff.1 h
  have HCK : Aside0 (walk_check.f k p1 p2 [] = some C) := ⟨hC⟩
  obtain ⟨g, hg, h⟩ := Option.bind_eq_some_iff.1 h
  refine iGp h ?_
  clear h
  intro ⟨g1, g2⟩ h
  have HG : Aside0 (clerestorylaw1_walkBegun.f k = some true) := ⟨by rw [← g1]; exact hg⟩
  have g2 : C = W := g2
  subst g2
  have H := Aside0.mk h
  clear hf hW hC hg g1 h
  cases nil_
  · go_enter Tryd.func5, Tryd.ntmps5
    go_upto_region 1 with (first | ((with_reducible refine q0g (N := 4) rfl ?_); refine ws_box rfl (N := 4) rfl (cs := #[.slice A0 l0.length c0, .bool q]) (t := 24) zi ?_; intro gd wd DK GD DS) | ((with_reducible refine q0g (N := 6) rfl ?_); refine ws_box rfl (N := 6) rfl (cs := #[.int .i64 kind]) (t := 3) zi ?_; intro gs ws_ SK GS SS))
    have n_DK := Aside0.mk (q07 DK.out SS.out)
    have n_HB := Aside0.mk (q01 DS.out SS.out)
    clear DK DS SS GS HB
    have DK := n_DK
    have HB := n_HB
    clear n_DK n_HB
    obtain ⟨hd0, hd1, hdf0, hdf1⟩ := bk2 DK.out
    have hs0 := (q05 SK.out 0).trans rfl
    go_upto_region 2 with (go_at_call 15; ((with_reducible refine (clerestorylaw1_few.calls (fun k_ => k_ < w.heap.size) _ _ l0 q 60 p1 p2 _ ?side1 HF.out).mono ?_); (case side1 => exact Kd.V_mk HL.out (Kd.F_below (Kd.C_F k43_heap HC.out) HB.out)); rintro e w7 ⟨v1, rfl, hv, hb⟩; obtain ⟨A1, c1, e_⟩ := Kd.V_slice hv; subst e_; have HV := Aside0.mk hv; have n_DK := Aside0.mk (q07 DK.out hb); have n_SK := Aside0.mk (q07 SK.out hb); have n_HB := Aside0.mk (q01 HB.out hb); have HX := Aside0.mk (q13 DK.out); clear hv; clear hd0 hd1 hdf0 hdf1 hs0; clear DK SK HB hb; have DK := n_DK; have SK := n_SK; have HB := n_HB; clear n_DK n_SK n_HB; obtain ⟨hd0, hd1, hdf0, hdf1⟩ := bk2 DK.out; have hs0 := (q05 SK.out 0).trans rfl))
    have hfar : ∀ k_ : Nat, (k_ < w.heap.size ∨ ws_.heap.size ≤ k_) → k_ ≠ gd := fun k_ hk e_ => by
      have h1_ := GD.out
      have h2_ := HX.out
      omega
    have hne : gs ≠ gd := blk_ne SK.out DK.out (by decide)
    have HL1 := Aside0.mk (Kd.V_reads' HV.out).2.1
    have n_HC := Aside0.mk (Kd.V_reads' (Kd.V_step (Kd.V_step HV.out (w1 := w7.setCell ⟨gd, 0, none⟩ (.slice A1 p1.length c1)) (fun k_ hk _ => Below.heap_setCell w7 _ _ k_ (hfar k_ hk))) (w1 := (w7.setCell ⟨gd, 0, none⟩ (.slice A1 p1.length c1)).setCell ⟨gd, 1, none⟩ (.bool p2)) (fun k_ hk _ => Below.heap_setCell _ _ _ k_ (hfar k_ hk)))).2.2
    have n_DK := Aside0.mk ((blk_set (blk_set DK.out 0 (.slice A1 p1.length c1)) 1 (.bool p2)).trans (show _ = some (Obj.cells #[.slice A1 p1.length c1, .bool p2] 24 (0, 0)) from rfl))
    have n_SK := Aside0.mk ((Below.heap_setCell _ ⟨gd, 1, none⟩ (.bool p2) gs hne).trans ((Below.heap_setCell _ ⟨gd, 0, none⟩ (.slice A1 p1.length c1) gs hne).trans SK.out))
    have n_HB := Aside0.mk (below_set (j := 1) (v := .bool p2) (below_set (j := 0) (v := .slice A1 p1.length c1) HB.out GD.out) GD.out)
    clear DK SK HB HV hd0 hd1 hdf0 hdf1 hs0 hfar hne HX HC HL HF
    generalize ((w7.setCell ⟨gd, 0, none⟩ (.slice A1 p1.length c1)).setCell ⟨gd, 1, none⟩ (.bool p2)) = w8 at n_HC n_DK n_SK n_HB ⊢
    have DK := n_DK
    have SK := n_SK
    have HB := n_HB
    have HC1 := n_HC
    clear n_DK n_SK n_HB n_HC
    obtain ⟨hd0, hd1, hdf0, hdf1⟩ := bk2 DK.out
    have hs0 := (q05 SK.out 0).trans rfl
    by_cases zW : C = 0
    rotate_left
    · obtain ⟨s, hs, h⟩ := Option.bind_eq_some_iff.1 ((if_pos (.inl zW)).symm.trans H.out)
      refine iGp h ?_
      clear h
      intro e_ h
      obtain rfl := Option.some.inj h
      have HS : Aside0 (clerestoryref1_SameInts.f k [] [] = some true) := ⟨by rw [hs, e_]⟩
      have zb : (C == 0) = false := beq_eq_false_iff_ne.mpr zW
      have zc : (C == C) = true := beq_self_eq_true C
      have ZW := Aside0.mk zW
      clear hs zW H h e_
      go_wp2_with (first | (go_at_call 29; (refine (Bk.selE k A1 c1 p1 p2 root gs false C C _ HC1.out HL1.out HCK.out (.inl ⟨ZW.out, rfl⟩)).mono ?_; rintro e w_ ⟨rfl, hb⟩; have n_HC := Aside0.mk (Kd.C_below HC1.out hb); have n_DK := Aside0.mk (q07 DK.out hb); have n_SK := Aside0.mk (q07 SK.out hb); have n_HB := Aside0.mk (q01 HB.out hb); clear hd0 hd1 hdf0 hdf1 hs0; clear DK SK HB HC1 hb; have DK := n_DK; have SK := n_SK; have HB := n_HB; clear n_DK n_SK n_HB; have HC1 := n_HC; clear n_HC; obtain ⟨hd0, hd1, hdf0, hdf1⟩ := bk2 DK.out; have hs0 := (q05 SK.out 0).trans rfl)) | (go_at_call 17; (refine (clerestoryref1_DocErr.calls k A1 c1 p1 p2 C _ (Kd.C_below HC1.out (Below.refl _ _)) HL1.out HW.out).mono ?_; rintro e w_ ⟨rfl, hb⟩; have n_HC := Aside0.mk (Kd.C_below HC1.out hb); have n_DK := Aside0.mk (q07 DK.out hb); have n_SK := Aside0.mk (q07 SK.out hb); have n_HB := Aside0.mk (q01 HB.out hb); clear hd0 hd1 hdf0 hdf1 hs0; clear DK SK HB HC1 hb; have DK := n_DK; have SK := n_SK; have HB := n_HB; clear n_DK n_SK n_HB; have HC1 := n_HC; clear n_HC; obtain ⟨hd0, hd1, hdf0, hdf1⟩ := bk2 DK.out; have hs0 := (q05 SK.out 0).trans rfl)) | (go_at_call 20; (refine (clerestorylaw1_walkBegun.calls k true _ HG.out).mono ?_; rintro e w_ ⟨rfl, hb⟩; have n_HB := Aside0.mk (q01 HB.out hb); clear HB hb; have HB := n_HB; clear n_HB)) | (go_at_call 30; (refine (clerestoryref1_SameInts.calls k none 0 [] none 0 [] true _ (Kd.C_nil _ _) (by simp) (Kd.C_nil _ _) (by simp) HS.out).mono ?_; rintro e w_ ⟨rfl, ⟨nd, rfl⟩⟩)))
      go_ret
      exact ⟨rfl, (by repeat (first | exact HB.out | apply q0d | apply q0a | apply q0i))⟩
    · subst zW
      by_cases ho : root < 0 ∨ root ≥ (p1.length : Int)
      · obtain ⟨s, hs, h⟩ := Option.bind_eq_some_iff.1 ((if_pos (.inr (.inl ho))).symm.trans H.out)
        refine iGp h ?_
        clear h
        intro e_ h
        obtain rfl := Option.some.inj h
        have HS : Aside0 (clerestoryref1_SameInts.f k [] [] = some true) := ⟨by rw [hs, e_]⟩
        clear hs H h e_
        have HO := Aside0.mk ho
        by_cases hn : root < 0
        · have d0 : decide (root < 0) = true := decide_eq_true hn
          clear ho hn
          go_wp2_with (first | (go_at_call 29; (refine (Bk.selE k A1 c1 p1 p2 root gs false 0 1 _ HC1.out HL1.out HCK.out (.inr (.inl ⟨rfl, HO.out, rfl⟩))).mono ?_; rintro e w_ ⟨rfl, hb⟩; have n_HC := Aside0.mk (Kd.C_below HC1.out hb); have n_DK := Aside0.mk (q07 DK.out hb); have n_SK := Aside0.mk (q07 SK.out hb); have n_HB := Aside0.mk (q01 HB.out hb); clear hd0 hd1 hdf0 hdf1 hs0; clear DK SK HB HC1 hb; have DK := n_DK; have SK := n_SK; have HB := n_HB; clear n_DK n_SK n_HB; have HC1 := n_HC; clear n_HC; obtain ⟨hd0, hd1, hdf0, hdf1⟩ := bk2 DK.out; have hs0 := (q05 SK.out 0).trans rfl)) | (go_at_call 17; (refine (clerestoryref1_DocErr.calls k A1 c1 p1 p2 0 _ (Kd.C_below HC1.out (Below.refl _ _)) HL1.out HW.out).mono ?_; rintro e w_ ⟨rfl, hb⟩; have n_HC := Aside0.mk (Kd.C_below HC1.out hb); have n_DK := Aside0.mk (q07 DK.out hb); have n_SK := Aside0.mk (q07 SK.out hb); have n_HB := Aside0.mk (q01 HB.out hb); clear hd0 hd1 hdf0 hdf1 hs0; clear DK SK HB HC1 hb; have DK := n_DK; have SK := n_SK; have HB := n_HB; clear n_DK n_SK n_HB; have HC1 := n_HC; clear n_HC; obtain ⟨hd0, hd1, hdf0, hdf1⟩ := bk2 DK.out; have hs0 := (q05 SK.out 0).trans rfl)) | (go_at_call 20; (refine (clerestorylaw1_walkBegun.calls k true _ HG.out).mono ?_; rintro e w_ ⟨rfl, hb⟩; have n_HB := Aside0.mk (q01 HB.out hb); clear HB hb; have HB := n_HB; clear n_HB)) | (go_at_call 30; (refine (clerestoryref1_SameInts.calls k none 0 [] none 0 [] true _ (Kd.C_nil _ _) (by simp) (Kd.C_nil _ _) (by simp) HS.out).mono ?_; rintro e w_ ⟨rfl, ⟨nd, rfl⟩⟩)))
          go_ret
          exact ⟨rfl, (by repeat (first | exact HB.out | apply q0d | apply q0a | apply q0i))⟩
        · have hn2 : root ≥ (p1.length : Int) := ho.resolve_left hn
          have d0 : decide (root < 0) = false := decide_eq_false hn
          have d1 : decide ((p1.length : Int) ≤ root) = true := decide_eq_true hn2
          clear ho hn hn2
          go_wp2_with (first | (go_at_call 29; (refine (Bk.selE k A1 c1 p1 p2 root gs false 0 1 _ HC1.out HL1.out HCK.out (.inr (.inl ⟨rfl, HO.out, rfl⟩))).mono ?_; rintro e w_ ⟨rfl, hb⟩; have n_HC := Aside0.mk (Kd.C_below HC1.out hb); have n_DK := Aside0.mk (q07 DK.out hb); have n_SK := Aside0.mk (q07 SK.out hb); have n_HB := Aside0.mk (q01 HB.out hb); clear hd0 hd1 hdf0 hdf1 hs0; clear DK SK HB HC1 hb; have DK := n_DK; have SK := n_SK; have HB := n_HB; clear n_DK n_SK n_HB; have HC1 := n_HC; clear n_HC; obtain ⟨hd0, hd1, hdf0, hdf1⟩ := bk2 DK.out; have hs0 := (q05 SK.out 0).trans rfl)) | (go_at_call 17; (refine (clerestoryref1_DocErr.calls k A1 c1 p1 p2 0 _ (Kd.C_below HC1.out (Below.refl _ _)) HL1.out HW.out).mono ?_; rintro e w_ ⟨rfl, hb⟩; have n_HC := Aside0.mk (Kd.C_below HC1.out hb); have n_DK := Aside0.mk (q07 DK.out hb); have n_SK := Aside0.mk (q07 SK.out hb); have n_HB := Aside0.mk (q01 HB.out hb); clear hd0 hd1 hdf0 hdf1 hs0; clear DK SK HB HC1 hb; have DK := n_DK; have SK := n_SK; have HB := n_HB; clear n_DK n_SK n_HB; have HC1 := n_HC; clear n_HC; obtain ⟨hd0, hd1, hdf0, hdf1⟩ := bk2 DK.out; have hs0 := (q05 SK.out 0).trans rfl)) | (go_at_call 20; (refine (clerestorylaw1_walkBegun.calls k true _ HG.out).mono ?_; rintro e w_ ⟨rfl, hb⟩; have n_HB := Aside0.mk (q01 HB.out hb); clear HB hb; have HB := n_HB; clear n_HB)) | (go_at_call 30; (refine (clerestoryref1_SameInts.calls k none 0 [] none 0 [] true _ (Kd.C_nil _ _) (by simp) (Kd.C_nil _ _) (by simp) HS.out).mono ?_; rintro e w_ ⟨rfl, ⟨nd, rfl⟩⟩)))
          go_ret
          exact ⟨rfl, (by repeat (first | exact HB.out | apply q0d | apply q0a | apply q0i))⟩
      · have hi : 0 ≤ root ∧ root < (p1.length : Int) := by omega
        have HI := Aside0.mk hi
        have d0 : decide (root < 0) = false := decide_eq_false (by omega)
        have d1 : decide ((p1.length : Int) ≤ root) = false := decide_eq_false (by omega)
        have h := H.out
        rw [if_neg (fun h9 => h9.elim (fun h9 => h9 rfl) fun h9 => h9.elim ho (fun h9 => by cases h9))] at h
        obtain ⟨all, hall, h⟩ := Option.bind_eq_some_iff.1 h
        obtain ⟨bl, hbl, h⟩ := Option.bind_eq_some_iff.1 h
        refine iGp h ?_
        clear h
        intro ⟨e1, e2⟩ h
        subst e1
        obtain ⟨s, hs, h⟩ := Option.bind_eq_some_iff.1 h
        refine iGp h ?_
        clear h
        intro e_ h
        obtain rfl := Option.some.inj h
        have HS : Aside0 (clerestoryref1_SameInts.f k (Bk.ofKind p1 kind bl) (Bk.ofKind p1 kind bl) = some true) := ⟨by rw [hs, e_]⟩
        have HALL := Aside0.mk hall
        have HBL := Aside0.mk hbl
        have HCL := Aside0.mk (List.all_eq_true.1 e2)
        clear hs h e_ hall hbl e2 H ho hi
        go_wp2_with (first | (go_at_call 29; (refine (Bk.selS k A1 c1 p1 p2 root kind gs _ HC1.out HL1.out SK.out HCK.out HI.out.1 HI.out.2 bl 1000 (by decide) HALL.out (fun x hx => clOk_two (HCL.out x hx))).mono ?_; rintro e w_ ⟨vs, rfl, hvs, hb⟩; have n_HC := Aside0.mk (Kd.C_below HC1.out hb); have n_DK := Aside0.mk (q07 DK.out hb); have n_SK := Aside0.mk (q07 SK.out hb); have n_HB := Aside0.mk (q01 HB.out hb); obtain ⟨As, cs, e_⟩ := Kd.R_slice hvs; subst e_; have HVS := Aside0.mk hvs; have HVB := Aside0.mk (Below.refl w_.heap.size w_); clear hvs; clear hd0 hd1 hdf0 hdf1 hs0; clear DK SK HB HC1 hb; have DK := n_DK; have SK := n_SK; have HB := n_HB; clear n_DK n_SK n_HB; have HC1 := n_HC; clear n_HC; obtain ⟨hd0, hd1, hdf0, hdf1⟩ := bk2 DK.out; have hs0 := (q05 SK.out 0).trans rfl)) | (go_at_call 17; (refine (clerestoryref1_DocErr.calls k A1 c1 p1 p2 0 _ (Kd.C_below HC1.out (Below.refl _ _)) HL1.out HW.out).mono ?_; rintro e w_ ⟨rfl, hb⟩; have n_HC := Aside0.mk (Kd.C_below HC1.out hb); have n_DK := Aside0.mk (q07 DK.out hb); have n_SK := Aside0.mk (q07 SK.out hb); have n_HB := Aside0.mk (q01 HB.out hb); have n_VB := Aside0.mk (q01 HVB.out hb); clear HVB; have HVB := n_VB; clear n_VB; clear hd0 hd1 hdf0 hdf1 hs0; clear DK SK HB HC1 hb; have DK := n_DK; have SK := n_SK; have HB := n_HB; clear n_DK n_SK n_HB; have HC1 := n_HC; clear n_HC; obtain ⟨hd0, hd1, hdf0, hdf1⟩ := bk2 DK.out; have hs0 := (q05 SK.out 0).trans rfl)) | (go_at_call 25; (refine (clerestoryref1_Below.calls k A1 c1 p1 p2 root bl _ HC1.out HL1.out HBL.out).mono ?_; rintro e w_ ⟨vb, rfl, hvb, hb⟩; have n_HC := Aside0.mk (Kd.C_below HC1.out hb); have n_DK := Aside0.mk (q07 DK.out hb); have n_SK := Aside0.mk (q07 SK.out hb); have n_HB := Aside0.mk (q01 HB.out hb); obtain ⟨Ab, cb, e_⟩ := Kd.R_slice hvb; subst e_; have HVL := Aside0.mk hvb; have n_VB := Aside0.mk (q01 HVB.out hb); clear HVB hvb; have HVB := n_VB; clear n_VB; clear hd0 hd1 hdf0 hdf1 hs0; clear DK SK HB HC1 hb; have DK := n_DK; have SK := n_SK; have HB := n_HB; clear n_DK n_SK n_HB; have HC1 := n_HC; clear n_HC; obtain ⟨hd0, hd1, hdf0, hdf1⟩ := bk2 DK.out; have hs0 := (q05 SK.out 0).trans rfl)))
        clear hd0 hd1 hdf0 hdf1 hs0
        go_loopw [13, 53] (fun v13 v53 W => ∃ i : Nat, v53 = .int .i64 (i : Int) ∧ Aside0 (i ≤ bl.length) ∧ Aside0 (W.ownsRow w_.heap.size 3 1 v13 (Bk.ofKind p1 kind (bl.take i)).length (Bk.ints (Bk.ofKind p1 kind (bl.take i)))) ∧ Aside0 (Below w_.heap.size w_ W)) (fun _ v53 _ => bl.length - (intOf v53).toNat)
        case atStart => exact ⟨0, rfl, ⟨Nat.zero_le _⟩, ⟨own_nil _ _ _ _⟩, ⟨Below.refl _ _⟩⟩
        case round =>
          obtain ⟨i, rfl, HI2, HO2, HW2⟩ := hrel
          by_cases ci : i < bl.length
          · have q1 : (i : Int) < (bl.length : Int) := by omega
            obtain ⟨ad, e_, hx⟩ := Kd.at_int (Kd.R_reads' HVL.out).2.2 (i : Int) (Int.natCast_nonneg _) q1
            subst e_
            replace hx := (HW2.out.cell (World.block_lt_of_cell? w_ _ hx)).trans hx
            rw [show ((i : Int)).toNat = i from rfl] at hx
            have hm : rd bl (i : Int) ∈ bl := by
              rw [show rd bl (i : Int) = bl[i] by simp [rd, List.getD, ci]]
              exact List.getElem_mem ci
            have hxr := Bk.belR_mem HALL.out _ hm
            have htk : bl.take (i + 1) = bl.take i ++ [rd bl (i : Int)] := by
              rw [List.take_add_one, show bl[i]? = some (rd bl (i : Int)) by simp [rd, List.getD, ci]]; rfl
            generalize rd bl (i : Int) = x at hx hm hxr htk
            obtain ⟨ad2, A2, c2, A5, c5, e_, x0, -, -, -, -, -, -, -, -, -⟩ := at_T43 HC1.out x hxr.1 hxr.2
            subst e_
            replace x0 := (HW2.out.cell (World.block_lt_of_cell? w_ _ x0)).trans x0
            have hd0 := (HW2.out.cell (p := ⟨gd, 0, none⟩) (q13 DK.out)).trans ((q05 DK.out 0).trans rfl)
            have hs0 := (HW2.out.cell (p := ⟨gs, 0, none⟩) (q13 SK.out)).trans ((q05 SK.out 0).trans rfl)
            have p1_ : 0 ≤ (i : Int) := Int.natCast_nonneg _
            have cib : decide ((i : Int) < (bl.length : Int)) = true := decide_eq_true q1
            have HXR := Aside0.mk hxr
            obtain ⟨xr0, xr1⟩ := hxr
            replace p1_ := eq_true p1_
            replace q1 := eq_true q1
            replace xr0 := eq_true xr0
            replace xr1 := eq_true xr1
            have hwr : ∀ z : Int, z = (i : Int) + 1 → wrap64 z = ((i + 1 : Nat) : Int) := fun z e => by rw [e]; exact ws_w (by have h1 := (Bk.belR_len HALL.out).2; omega)
            have LEN : Aside0 ((Bk.ofKind p1 kind (bl.take i)).length + 1 ≤ maxLen ∧ ((Bk.ofKind p1 kind (bl.take i)).length + 1) * 8 ≤ 140737488355328) := ⟨by
              have h1 := (Bk.belR_len HALL.out).2
              have h2 := Bk.ofKind_len p1 kind (bl.take i)
              rw [List.length_take] at h2
              exact ws_len (Nat.le_trans h2 (Nat.le_trans (Nat.min_le_right _ _) h1))⟩
            have HTK := Aside0.mk htk
            have CI := Aside0.mk ci
            clear hm htk ci
            by_cases hk : ((q00 p1 x).f0 == kind) = true
            · obtain ⟨i0, hi0, hz0, hz1, hz2⟩ := info_parts Bk.infoI
              obtain ⟨A13, c13, e_⟩ := Bk.owns_slice HO2.out
              subst e_
              have ho2 : wr.drew.ownsRow w_.heap.size 3 1 (.slice A13 (Bk.ofKind p1 kind (bl.take i)).length c13) (Bk.ofKind p1 kind (bl.take i)).length (Bk.ints (Bk.ofKind p1 kind (bl.take i))) := HO2.out
              have hw2 := below_drew HW2.out
              go_wp2
              go_region
              go_wp2_with (at_builtin; (refine wpList_append_own_at _ rfl _ _ 31 rfl w_.heap.size 3 i0 (.int .i64 0) 1 8 Tryd.underlying31 hi0 hz0 hz1 hz2 rfl (by decide) (.slice A13 (Bk.ofKind p1 kind (bl.take i)).length c13) (Bk.ofKind p1 kind (bl.take i)).length (Bk.ints (Bk.ofKind p1 kind (bl.take i))) rfl (ho2.alloc _) ⟨wr.drew.heap.size, 0, none⟩ 1 1 [.int .i64 x] rfl rfl (cell_one_new _ _ _) (by simp [Value.oneCell']) LEN.out.1 LEN.out.2 (Nat.le_trans hw2.size (by simp)) ?_; intro v' w1' hown' hgrow _ _))
              have hbw : Below w_.heap.size w_ w1' := (hw2.alloc hw2.size _).grown hgrow (Nat.le_trans hw2.size (by simp)) (fun k_ e_ => own_base ho2 k_ e_)
              go_roundw
              case rel => exact ⟨i + 1, by first | (with_reducible rfl) | rw [hwr _ rfl], ⟨CI.out⟩, ⟨by rw [HTK.out, Bk.ofKind_snoc, if_pos hk, List.length_append]; simpa [Bk.ints] using hown'⟩, ⟨hbw⟩⟩
              case measure => first | exact ws_meas CI.out | (rw [hwr _ rfl]; exact ws_meas CI.out)
            · rw [Bool.not_eq_true] at hk
              go_wp2
              go_region
              go_wp2
              go_roundw
              case rel => exact ⟨i + 1, by first | (with_reducible rfl) | rw [hwr _ rfl], ⟨CI.out⟩, ⟨by rw [HTK.out, Bk.ofKind_snoc, if_neg (by rw [hk]; decide)]; exact HO2.out⟩, ⟨below_drew HW2.out⟩⟩
              case measure => first | exact ws_meas CI.out | (rw [hwr _ rfl]; exact ws_meas CI.out)
          · have hil : i = bl.length := Nat.le_antisymm HI2.out (Nat.le_of_not_lt ci)
            have cib : decide ((i : Int) < (bl.length : Int)) = false := decide_eq_false (by omega)
            have cib2 : decide (i < bl.length) = false := decide_eq_false ci
            have ho2 := HO2.out
            rw [hil, List.take_length] at ho2
            obtain ⟨A13, c13, e_⟩ := Bk.owns_slice ho2
            subst e_
            have HCW := Aside0.mk (Kd.R_reads' (Bk.R_of_owns ho2)).2.2
            have HLW := Aside0.mk (Kd.R_reads' (Bk.R_of_owns ho2)).2.1
            have HCS := Aside0.mk (Kd.C_below (Kd.C_below (Kd.R_reads' HVS.out).2.2 HVB.out) HW2.out)
            have HLS := Aside0.mk (Kd.R_reads' HVS.out).2.1
            have HQ := Aside0.mk (Below.refl wr.heap.size wr)
            have n_HB := Aside0.mk (q01 HB.out HW2.out)
            clear HB HI2 HO2 HW2 ho2 ci hil HVS HVL HVB
            have HB := n_HB
            clear n_HB
            go_wp2_with (first | (go_at_call 20; (refine (clerestorylaw1_walkBegun.calls k true _ HG.out).mono ?_; rintro e w_ ⟨rfl, hb⟩; have n_HB := Aside0.mk (q01 HB.out hb); have n_HQ := Aside0.mk (q01 HQ.out hb); clear HQ; have HQ := n_HQ; clear n_HQ; clear HB hb; have HB := n_HB; clear n_HB)) | (go_at_call 30; (refine (clerestoryref1_SameInts.calls k As cs (Bk.ofKind p1 kind bl) A13 c13 (Bk.ofKind p1 kind bl) true _ (Kd.C_below HCS.out (by repeat (first | exact HQ.out | apply q0d | apply q0a | apply q0i))) HLS.out (Kd.C_below HCW.out (by repeat (first | exact HQ.out | apply q0d | apply q0a | apply q0i))) HLW.out HS.out).mono ?_; rintro e w_ ⟨rfl, ⟨nd, rfl⟩⟩)))
            skip
            go_ret
            exact ⟨rfl, (by repeat (first | exact HB.out | apply q0d | apply q0a | apply q0i))⟩
  · go_enter Tryd.func5, Tryd.ntmps5
    go_upto_region 1 with (first | ((with_reducible refine q0g (N := 4) rfl ?_); refine ws_box rfl (N := 4) rfl (cs := #[.slice A0 l0.length c0, .bool q]) (t := 24) zi ?_; intro gd wd DK GD DS) | ((with_reducible refine q0g (N := 6) rfl ?_); refine ws_box rfl (N := 6) rfl (cs := #[.int .i64 kind]) (t := 3) zi ?_; intro gs ws_ SK GS SS))
    have n_DK := Aside0.mk (q07 DK.out SS.out)
    have n_HB := Aside0.mk (q01 DS.out SS.out)
    clear DK DS SS GS HB
    have DK := n_DK
    have HB := n_HB
    clear n_DK n_HB
    obtain ⟨hd0, hd1, hdf0, hdf1⟩ := bk2 DK.out
    have hs0 := (q05 SK.out 0).trans rfl
    go_upto_region 2 with (go_at_call 15; ((with_reducible refine (clerestorylaw1_few.calls (fun k_ => k_ < w.heap.size) _ _ l0 q 60 p1 p2 _ ?side1 HF.out).mono ?_); (case side1 => exact Kd.V_mk HL.out (Kd.F_below (Kd.C_F k43_heap HC.out) HB.out)); rintro e w7 ⟨v1, rfl, hv, hb⟩; obtain ⟨A1, c1, e_⟩ := Kd.V_slice hv; subst e_; have HV := Aside0.mk hv; have n_DK := Aside0.mk (q07 DK.out hb); have n_SK := Aside0.mk (q07 SK.out hb); have n_HB := Aside0.mk (q01 HB.out hb); have HX := Aside0.mk (q13 DK.out); clear hv; clear hd0 hd1 hdf0 hdf1 hs0; clear DK SK HB hb; have DK := n_DK; have SK := n_SK; have HB := n_HB; clear n_DK n_SK n_HB; obtain ⟨hd0, hd1, hdf0, hdf1⟩ := bk2 DK.out; have hs0 := (q05 SK.out 0).trans rfl))
    have hfar : ∀ k_ : Nat, (k_ < w.heap.size ∨ ws_.heap.size ≤ k_) → k_ ≠ gd := fun k_ hk e_ => by
      have h1_ := GD.out
      have h2_ := HX.out
      omega
    have hne : gs ≠ gd := blk_ne SK.out DK.out (by decide)
    have HL1 := Aside0.mk (Kd.V_reads' HV.out).2.1
    have n_HC := Aside0.mk (Kd.V_reads' (Kd.V_step (Kd.V_step HV.out (w1 := w7.setCell ⟨gd, 0, none⟩ (.slice A1 p1.length c1)) (fun k_ hk _ => Below.heap_setCell w7 _ _ k_ (hfar k_ hk))) (w1 := (w7.setCell ⟨gd, 0, none⟩ (.slice A1 p1.length c1)).setCell ⟨gd, 1, none⟩ (.bool p2)) (fun k_ hk _ => Below.heap_setCell _ _ _ k_ (hfar k_ hk)))).2.2
    have n_DK := Aside0.mk ((blk_set (blk_set DK.out 0 (.slice A1 p1.length c1)) 1 (.bool p2)).trans (show _ = some (Obj.cells #[.slice A1 p1.length c1, .bool p2] 24 (0, 0)) from rfl))
    have n_SK := Aside0.mk ((Below.heap_setCell _ ⟨gd, 1, none⟩ (.bool p2) gs hne).trans ((Below.heap_setCell _ ⟨gd, 0, none⟩ (.slice A1 p1.length c1) gs hne).trans SK.out))
    have n_HB := Aside0.mk (below_set (j := 1) (v := .bool p2) (below_set (j := 0) (v := .slice A1 p1.length c1) HB.out GD.out) GD.out)
    clear DK SK HB HV hd0 hd1 hdf0 hdf1 hs0 hfar hne HX HC HL HF
    generalize ((w7.setCell ⟨gd, 0, none⟩ (.slice A1 p1.length c1)).setCell ⟨gd, 1, none⟩ (.bool p2)) = w8 at n_HC n_DK n_SK n_HB ⊢
    have DK := n_DK
    have SK := n_SK
    have HB := n_HB
    have HC1 := n_HC
    clear n_DK n_SK n_HB n_HC
    obtain ⟨hd0, hd1, hdf0, hdf1⟩ := bk2 DK.out
    have hs0 := (q05 SK.out 0).trans rfl
    by_cases zW : C = 0
    rotate_left
    · obtain ⟨s, hs, h⟩ := Option.bind_eq_some_iff.1 ((if_pos (.inl zW)).symm.trans H.out)
      refine iGp h ?_
      clear h
      intro e_ h
      obtain rfl := Option.some.inj h
      have HS : Aside0 (clerestoryref1_SameInts.f k [] [] = some true) := ⟨by rw [hs, e_]⟩
      have zb : (C == 0) = false := beq_eq_false_iff_ne.mpr zW
      have zc : (C == C) = true := beq_self_eq_true C
      have ZW := Aside0.mk zW
      clear hs zW H h e_
      go_wp2_with (first | (go_at_call 29; (refine (Bk.selE k A1 c1 p1 p2 root gs true C C _ HC1.out HL1.out HCK.out (.inl ⟨ZW.out, rfl⟩)).mono ?_; rintro e w_ ⟨rfl, hb⟩; have n_HC := Aside0.mk (Kd.C_below HC1.out hb); have n_DK := Aside0.mk (q07 DK.out hb); have n_SK := Aside0.mk (q07 SK.out hb); have n_HB := Aside0.mk (q01 HB.out hb); clear hd0 hd1 hdf0 hdf1 hs0; clear DK SK HB HC1 hb; have DK := n_DK; have SK := n_SK; have HB := n_HB; clear n_DK n_SK n_HB; have HC1 := n_HC; clear n_HC; obtain ⟨hd0, hd1, hdf0, hdf1⟩ := bk2 DK.out; have hs0 := (q05 SK.out 0).trans rfl)) | (go_at_call 17; (refine (clerestoryref1_DocErr.calls k A1 c1 p1 p2 C _ (Kd.C_below HC1.out (Below.refl _ _)) HL1.out HW.out).mono ?_; rintro e w_ ⟨rfl, hb⟩; have n_HC := Aside0.mk (Kd.C_below HC1.out hb); have n_DK := Aside0.mk (q07 DK.out hb); have n_SK := Aside0.mk (q07 SK.out hb); have n_HB := Aside0.mk (q01 HB.out hb); clear hd0 hd1 hdf0 hdf1 hs0; clear DK SK HB HC1 hb; have DK := n_DK; have SK := n_SK; have HB := n_HB; clear n_DK n_SK n_HB; have HC1 := n_HC; clear n_HC; obtain ⟨hd0, hd1, hdf0, hdf1⟩ := bk2 DK.out; have hs0 := (q05 SK.out 0).trans rfl)) | (go_at_call 20; (refine (clerestorylaw1_walkBegun.calls k true _ HG.out).mono ?_; rintro e w_ ⟨rfl, hb⟩; have n_HB := Aside0.mk (q01 HB.out hb); clear HB hb; have HB := n_HB; clear n_HB)) | (go_at_call 30; (refine (clerestoryref1_SameInts.calls k none 0 [] none 0 [] true _ (Kd.C_nil _ _) (by simp) (Kd.C_nil _ _) (by simp) HS.out).mono ?_; rintro e w_ ⟨rfl, ⟨nd, rfl⟩⟩)))
      go_ret
      exact ⟨rfl, (by repeat (first | exact HB.out | apply q0d | apply q0a | apply q0i))⟩
    · subst zW
      by_cases ho : root < 0 ∨ root ≥ (p1.length : Int)
      · obtain ⟨s, hs, h⟩ := Option.bind_eq_some_iff.1 ((if_pos (.inr (.inl ho))).symm.trans H.out)
        refine iGp h ?_
        clear h
        intro e_ h
        obtain rfl := Option.some.inj h
        have HS : Aside0 (clerestoryref1_SameInts.f k [] [] = some true) := ⟨by rw [hs, e_]⟩
        clear hs H h e_
        have HO := Aside0.mk ho
        by_cases hn : root < 0
        · have d0 : decide (root < 0) = true := decide_eq_true hn
          clear ho hn
          go_wp2_with (first | (go_at_call 29; (refine (Bk.selE k A1 c1 p1 p2 root gs true 0 1 _ HC1.out HL1.out HCK.out (.inr (.inl ⟨rfl, HO.out, rfl⟩))).mono ?_; rintro e w_ ⟨rfl, hb⟩; have n_HC := Aside0.mk (Kd.C_below HC1.out hb); have n_DK := Aside0.mk (q07 DK.out hb); have n_SK := Aside0.mk (q07 SK.out hb); have n_HB := Aside0.mk (q01 HB.out hb); clear hd0 hd1 hdf0 hdf1 hs0; clear DK SK HB HC1 hb; have DK := n_DK; have SK := n_SK; have HB := n_HB; clear n_DK n_SK n_HB; have HC1 := n_HC; clear n_HC; obtain ⟨hd0, hd1, hdf0, hdf1⟩ := bk2 DK.out; have hs0 := (q05 SK.out 0).trans rfl)) | (go_at_call 17; (refine (clerestoryref1_DocErr.calls k A1 c1 p1 p2 0 _ (Kd.C_below HC1.out (Below.refl _ _)) HL1.out HW.out).mono ?_; rintro e w_ ⟨rfl, hb⟩; have n_HC := Aside0.mk (Kd.C_below HC1.out hb); have n_DK := Aside0.mk (q07 DK.out hb); have n_SK := Aside0.mk (q07 SK.out hb); have n_HB := Aside0.mk (q01 HB.out hb); clear hd0 hd1 hdf0 hdf1 hs0; clear DK SK HB HC1 hb; have DK := n_DK; have SK := n_SK; have HB := n_HB; clear n_DK n_SK n_HB; have HC1 := n_HC; clear n_HC; obtain ⟨hd0, hd1, hdf0, hdf1⟩ := bk2 DK.out; have hs0 := (q05 SK.out 0).trans rfl)) | (go_at_call 20; (refine (clerestorylaw1_walkBegun.calls k true _ HG.out).mono ?_; rintro e w_ ⟨rfl, hb⟩; have n_HB := Aside0.mk (q01 HB.out hb); clear HB hb; have HB := n_HB; clear n_HB)) | (go_at_call 30; (refine (clerestoryref1_SameInts.calls k none 0 [] none 0 [] true _ (Kd.C_nil _ _) (by simp) (Kd.C_nil _ _) (by simp) HS.out).mono ?_; rintro e w_ ⟨rfl, ⟨nd, rfl⟩⟩)))
          go_ret
          exact ⟨rfl, (by repeat (first | exact HB.out | apply q0d | apply q0a | apply q0i))⟩
        · have hn2 : root ≥ (p1.length : Int) := ho.resolve_left hn
          have d0 : decide (root < 0) = false := decide_eq_false hn
          have d1 : decide ((p1.length : Int) ≤ root) = true := decide_eq_true hn2
          clear ho hn hn2
          go_wp2_with (first | (go_at_call 29; (refine (Bk.selE k A1 c1 p1 p2 root gs true 0 1 _ HC1.out HL1.out HCK.out (.inr (.inl ⟨rfl, HO.out, rfl⟩))).mono ?_; rintro e w_ ⟨rfl, hb⟩; have n_HC := Aside0.mk (Kd.C_below HC1.out hb); have n_DK := Aside0.mk (q07 DK.out hb); have n_SK := Aside0.mk (q07 SK.out hb); have n_HB := Aside0.mk (q01 HB.out hb); clear hd0 hd1 hdf0 hdf1 hs0; clear DK SK HB HC1 hb; have DK := n_DK; have SK := n_SK; have HB := n_HB; clear n_DK n_SK n_HB; have HC1 := n_HC; clear n_HC; obtain ⟨hd0, hd1, hdf0, hdf1⟩ := bk2 DK.out; have hs0 := (q05 SK.out 0).trans rfl)) | (go_at_call 17; (refine (clerestoryref1_DocErr.calls k A1 c1 p1 p2 0 _ (Kd.C_below HC1.out (Below.refl _ _)) HL1.out HW.out).mono ?_; rintro e w_ ⟨rfl, hb⟩; have n_HC := Aside0.mk (Kd.C_below HC1.out hb); have n_DK := Aside0.mk (q07 DK.out hb); have n_SK := Aside0.mk (q07 SK.out hb); have n_HB := Aside0.mk (q01 HB.out hb); clear hd0 hd1 hdf0 hdf1 hs0; clear DK SK HB HC1 hb; have DK := n_DK; have SK := n_SK; have HB := n_HB; clear n_DK n_SK n_HB; have HC1 := n_HC; clear n_HC; obtain ⟨hd0, hd1, hdf0, hdf1⟩ := bk2 DK.out; have hs0 := (q05 SK.out 0).trans rfl)) | (go_at_call 20; (refine (clerestorylaw1_walkBegun.calls k true _ HG.out).mono ?_; rintro e w_ ⟨rfl, hb⟩; have n_HB := Aside0.mk (q01 HB.out hb); clear HB hb; have HB := n_HB; clear n_HB)) | (go_at_call 30; (refine (clerestoryref1_SameInts.calls k none 0 [] none 0 [] true _ (Kd.C_nil _ _) (by simp) (Kd.C_nil _ _) (by simp) HS.out).mono ?_; rintro e w_ ⟨rfl, ⟨nd, rfl⟩⟩)))
          go_ret
          exact ⟨rfl, (by repeat (first | exact HB.out | apply q0d | apply q0a | apply q0i))⟩
      · obtain ⟨s, hs, h⟩ := Option.bind_eq_some_iff.1 ((if_pos (.inr (.inr (by trivial)))).symm.trans H.out)
        refine iGp h ?_
        clear h
        intro e_ h
        obtain rfl := Option.some.inj h
        have HS : Aside0 (clerestoryref1_SameInts.f k [] [] = some true) := ⟨by rw [hs, e_]⟩
        clear hs H h e_
        have hi : 0 ≤ root ∧ root < (p1.length : Int) := by omega
        have HI := Aside0.mk hi
        have d0 : decide (root < 0) = false := decide_eq_false (by omega)
        have d1 : decide ((p1.length : Int) ≤ root) = false := decide_eq_false (by omega)
        clear ho hi
        go_wp2_with (first | (go_at_call 29; (refine (Bk.selE k A1 c1 p1 p2 root gs true 0 9 _ HC1.out HL1.out HCK.out (.inr (.inr ⟨rfl, HI.out.1, HI.out.2, rfl, rfl⟩))).mono ?_; rintro e w_ ⟨rfl, hb⟩; have n_HC := Aside0.mk (Kd.C_below HC1.out hb); have n_DK := Aside0.mk (q07 DK.out hb); have n_SK := Aside0.mk (q07 SK.out hb); have n_HB := Aside0.mk (q01 HB.out hb); clear hd0 hd1 hdf0 hdf1 hs0; clear DK SK HB HC1 hb; have DK := n_DK; have SK := n_SK; have HB := n_HB; clear n_DK n_SK n_HB; have HC1 := n_HC; clear n_HC; obtain ⟨hd0, hd1, hdf0, hdf1⟩ := bk2 DK.out; have hs0 := (q05 SK.out 0).trans rfl)) | (go_at_call 17; (refine (clerestoryref1_DocErr.calls k A1 c1 p1 p2 0 _ (Kd.C_below HC1.out (Below.refl _ _)) HL1.out HW.out).mono ?_; rintro e w_ ⟨rfl, hb⟩; have n_HC := Aside0.mk (Kd.C_below HC1.out hb); have n_DK := Aside0.mk (q07 DK.out hb); have n_SK := Aside0.mk (q07 SK.out hb); have n_HB := Aside0.mk (q01 HB.out hb); clear hd0 hd1 hdf0 hdf1 hs0; clear DK SK HB HC1 hb; have DK := n_DK; have SK := n_SK; have HB := n_HB; clear n_DK n_SK n_HB; have HC1 := n_HC; clear n_HC; obtain ⟨hd0, hd1, hdf0, hdf1⟩ := bk2 DK.out; have hs0 := (q05 SK.out 0).trans rfl)) | (go_at_call 20; (refine (clerestorylaw1_walkBegun.calls k true _ HG.out).mono ?_; rintro e w_ ⟨rfl, hb⟩; have n_HB := Aside0.mk (q01 HB.out hb); clear HB hb; have HB := n_HB; clear n_HB)) | (go_at_call 30; (refine (clerestoryref1_SameInts.calls k none 0 [] none 0 [] true _ (Kd.C_nil _ _) (by simp) (Kd.C_nil _ _) (by simp) HS.out).mono ?_; rintro e w_ ⟨rfl, ⟨nd, rfl⟩⟩)))
        go_ret
        exact ⟨rfl, (by repeat (first | exact HB.out | apply q0d | apply q0a | apply q0i))⟩
end Go.Proofs.YthjnallbbhnndaaDoor.XWs
namespace Go.Proofs.YthjnallbbhnndaaDoor.XWs
open Go.Proofs.YthjnallbbhnndaaDoor.Short Go.RowKit Go.Proofs.YthjnallbbhnndaaDoorW.PrintWords Go.Proofs.YthjnallbbhnndaaDoorW.PrintLast Go.Proofs.YthjnallbbhnndaaDoor
def ok122 (x_ : S122) : Prop := (fun x_ : ByteArray => x_.size ≤ reachBytes) x_.f0 ∧ (fun x_ : ByteArray => x_.size ≤ reachBytes) x_.f1
theorem rd122 : Rd.Reads Tryd.prog 122 k122 ok122 :=
  ((Rd.reads_struct Tryd.underlying122 (by kernel_rfl) (Rd.readsF_cons rfl (Rd.reads_string Tryd.underlying9 (by kernel_rfl)) (Rd.readsF_one rfl (Rd.reads_string Tryd.underlying9 (by kernel_rfl))))).iso (fun x : S122 => (x.f0, x.f1)) (fun p_ => ⟨p_.1, p_.2⟩) (fun _ => rfl)).imp (fun _ h_ => h_)
def ok43 (x_ : S43) : Prop := (fun x_ : Int => (Lit.int .i64 x_).wf = true) x_.f0 ∧ (fun x_ : ByteArray => x_.size ≤ reachBytes) x_.f1 ∧ (fun l_ : List (S122) => l_.length * 32 ≤ reachBytes ∧ l_.length ≤ 9223372036854775807 ∧ ∀ a ∈ l_, ok122 a) x_.f2 ∧ (fun x_ : ByteArray => x_.size ≤ reachBytes) x_.f3 ∧ (fun x_ : Int => (Lit.int .i64 x_).wf = true) x_.f4 ∧ (fun l_ : List Int => l_.length * 8 ≤ reachBytes ∧ l_.length ≤ 9223372036854775807 ∧ ∀ a ∈ l_, (fun x_ : Int => (Lit.int .i64 x_).wf = true) a) x_.f5
theorem rd43 : Rd.Reads Tryd.prog 43 k43 ok43 :=
  ((Rd.reads_struct Tryd.underlying43 (by kernel_rfl) (Rd.readsF_cons rfl (Rd.reads_int Tryd.underlying3 (by kernel_rfl)) (Rd.readsF_cons rfl (Rd.reads_string Tryd.underlying9 (by kernel_rfl)) (Rd.readsF_cons rfl (show Rd.Reads Tryd.prog 41 (Kd.slice 122 k122) (fun l_ : List (S122) => l_.length * 32 ≤ reachBytes ∧ l_.length ≤ 9223372036854775807 ∧ ∀ a ∈ l_, ok122 a) from (Rd.reads_slice Tryd.underlying41 (by kernel_rfl) rd122).imp (fun l_ h_ => ⟨(show Tryd.prog.bytesOf 122 = 32 from by kernel_rfl) ▸ h_.1, h_.2⟩)) (Rd.readsF_cons rfl (Rd.reads_string Tryd.underlying9 (by kernel_rfl)) (Rd.readsF_cons rfl (Rd.reads_int Tryd.underlying3 (by kernel_rfl)) (Rd.readsF_one rfl (show Rd.Reads Tryd.prog 31 (Kd.slice 3 (Kd.int .i64)) (fun l_ : List Int => l_.length * 8 ≤ reachBytes ∧ l_.length ≤ 9223372036854775807 ∧ ∀ a ∈ l_, (fun x_ : Int => (Lit.int .i64 x_).wf = true) a) from (Rd.reads_slice Tryd.underlying31 (by kernel_rfl) (Rd.reads_int Tryd.underlying3 (by kernel_rfl))).imp (fun l_ h_ => ⟨(show Tryd.prog.bytesOf 3 = 8 from by kernel_rfl) ▸ h_.1, h_.2⟩))))))))).iso (fun x : S43 => (x.f0, x.f1, x.f2, x.f3, x.f4, x.f5)) (fun p_ => ⟨p_.1, p_.2.1, p_.2.2.1, p_.2.2.2.1, p_.2.2.2.2.1, p_.2.2.2.2.2⟩) (fun _ => rfl)).imp (fun _ h_ => h_)
def ok24 (x_ : S24) : Prop := (fun l_ : List (S43) => l_.length * 96 ≤ reachBytes ∧ l_.length ≤ 9223372036854775807 ∧ ∀ a ∈ l_, ok43 a) x_.f0 ∧ (fun _ : Bool => True) x_.f1
theorem rd24 : Rd.Reads Tryd.prog 24 k24 ok24 :=
  ((Rd.reads_struct Tryd.underlying24 (by kernel_rfl) (Rd.readsF_cons rfl (show Rd.Reads Tryd.prog 22 (Kd.slice 43 k43) (fun l_ : List (S43) => l_.length * 96 ≤ reachBytes ∧ l_.length ≤ 9223372036854775807 ∧ ∀ a ∈ l_, ok43 a) from (Rd.reads_slice Tryd.underlying22 (by kernel_rfl) rd43).imp (fun l_ h_ => ⟨(show Tryd.prog.bytesOf 43 = 96 from by kernel_rfl) ▸ h_.1, h_.2⟩)) (Rd.readsF_one rfl (Rd.reads_bool Tryd.underlying4 (by kernel_rfl))))).iso (fun x : S24 => (x.f0, x.f1)) (fun p_ => ⟨p_.1, p_.2⟩) (fun _ => rfl)).imp (fun _ h_ => h_)
def clerestorylaw1_WalkSelects.Pure : Prop := ∀ (l0_0 : List (S43)) (a0_1 : Bool) (a1 : Int) (a2 : Int) (a3 : Bool), (fun l_ : List (S43) => l_.length * 96 ≤ reachBytes ∧ l_.length ≤ 9223372036854775807 ∧ ∀ a ∈ l_, ok43 a) l0_0 → (fun _ : Bool => True) a0_1 → (fun x_ : Int => (Lit.int .i64 x_).wf = true) a1 → (fun x_ : Int => (Lit.int .i64 x_).wf = true) a2 → ∃ k, clerestorylaw1_WalkSelects.f k l0_0 a0_1 a1 a2 a3 = some true
end Go.Proofs.YthjnallbbhnndaaDoor.XWs
namespace Go.Proofs.YthjnallbbhnndaaDoor.Dm
open Go Go.RowKit Go.Proofs.YthjnallbbhnndaaDoor.XWs Go.Proofs.YthjnallbbhnndaaDoorW.PrintWords Go.Proofs.YthjnallbbhnndaaDoorW.PrintLast Go.Proofs.YthjnallbbhnndaaDoorW.PrintMore
set_option maxRecDepth 100000
theorem few_of_form (l0 : List S43) (q : Bool) (most : Int) (hm : 0 ≤ most ∧ most ≤ 1000) (hl : l0.length * 96 ≤ reachBytes ∧ l0.length ≤ 9223372036854775807 ∧ ∀ a ∈ l0, ok43 a) :
    ∃ ns, clerestorylaw1_few.f l0 q most = some (ns, q) ∧ (ns.length : Int) ≤ most ∧ SmallN ns ∧ KidsLe ns 17592186044416 := by
  obtain ⟨ns, hns⟩ : ∃ ns, l0.take (mn (l0.length : Int) most).toNat = ns := ⟨_, rfl⟩
  have hmn : 0 ≤ mn (l0.length : Int) most ∧ mn (l0.length : Int) most ≤ (l0.length : Int) ∧ mn (l0.length : Int) most ≤ most := by unfold mn; split <;> omega
  refine ⟨ns, ?_, by rw [← hns, List.length_take]; omega, ?_⟩
  · unfold clerestorylaw1_few.f
    rw [if_pos hmn.1, if_pos hmn.2.1, hns]
  have hok : ∀ a ∈ ns, ok43 a := fun a ha => hl.2.2 a (by rw [← hns] at ha; exact List.mem_of_mem_take ha)
  have hz : smallA (z43).f2 ∧ (z43).f1.size ≤ 140737488355328 ∧ (z43).f5.length ≤ 17592186044416 := ⟨fun x hx => by simp [z43] at hx, by decide, by decide⟩
  have hall : ∀ i : Int, smallA (q00 ns i).f2 ∧ (q00 ns i).f1.size ≤ 140737488355328 ∧ (q00 ns i).f5.length ≤ 17592186044416 := by
    intro i
    unfold q00
    by_cases c : i.toNat < ns.length
    · have e : ns.getD i.toNat z43 = ns[i.toNat] := by simp [List.getD, c]
      rw [e]
      obtain ⟨_, h1, h2, _, _, h5⟩ := hok _ (List.getElem_mem c)
      unfold reachBytes at h1 h2 h5
      refine ⟨fun x hx => ?_, by omega, by have := h5.1; omega⟩
      have := (h2.2.2 x hx).1
      unfold reachBytes at this
      omega
    · have e : ns.getD i.toNat z43 = z43 := by simp [List.getD, c]
      rw [e]
      exact hz
  exact ⟨fun i => ⟨(hall i).1, (hall i).2.1⟩, fun i => (hall i).2.2⟩
theorem both_check (ns : List S43) (q : Bool) (hS : SmallN ns) (hK : KidsLe ns 17592186044416) : ∃ K, ∀ k, K < k → dom_Check.f k ns q = some (docE ns) ∧ clerestoryref1_DocErr.f k ns q = some (docE ns) :=
  ⟨2 * ns.length + rounds ns 17592186044416, fun k hk => ⟨check_eq ns q hS 17592186044416 (by decide) hK k hk, docErr_eq ns q 17592186044416 (by decide) hK k hk⟩⟩
end Go.Proofs.YthjnallbbhnndaaDoor.Dm
namespace Go.Proofs.YthjnallbbhnndaaDoor.Dm
open Go Go.RowKit Go.Proofs.YthjnallbbhnndaaDoor.XWs Go.Proofs.YthjnallbbhnndaaDoorW.PrintWords Go.Proofs.YthjnallbbhnndaaDoorW.PrintLast
structure Tree (ns : List S43) : Prop where
  many : ns.length ≤ 200
  some_ : 0 < ns.length
  root : par ns 0 = -1
  kid : ∀ i c : Int, 0 ≤ i → i < ns.length → c ∈ kidL ns i → 0 ≤ c ∧ c < ns.length ∧ par ns c = i
  once : ∀ i : Int, 0 ≤ i → i < ns.length → (kidL ns i).Nodup
  up : ∀ i : Int, 0 ≤ i → i < ns.length → par ns i = -1 ∨ (0 ≤ par ns i ∧ par ns i < ns.length ∧ i ∈ kidL ns (par ns i))
  deep : ∀ i : Int, 0 ≤ i → i < ns.length → q15 ns i ≤ 40 ∧ q15 ns i ≤ ns.length
theorem mem_hasK (l : List Int) (x : Int) : hasK l x = true ↔ x ∈ l := by
  unfold hasK
  rw [List.any_eq_true]
  constructor
  · rintro ⟨y, hy, h⟩
    obtain rfl := of_decide_eq_true h
    exact hy
  · intro h
    exact ⟨x, h, decide_eq_true rfl⟩
theorem kidsE_once {ns : List S43} {i : Int} : ∀ {l pre : List Int}, kidsE ns i pre l = 0 → l.Nodup ∧ ∀ c ∈ l, hasK pre c = false
  | [], _, _ => ⟨List.nodup_nil, fun c hc => by simp at hc⟩
  | x :: t, pre, h => by
    rw [kidsE_cons] at h
    by_cases hb : q19 ns i pre x = true
    · rw [if_pos hb] at h; cases h
    · rw [if_neg hb] at h
      have hr := kidBad_range hb
      by_cases h7 : i = 0 ∧ (q00 ns x).f0 = 3
      · rw [if_pos h7] at h; cases h
      · rw [if_neg h7] at h
        obtain ⟨h1, h2⟩ := kidsE_once h
        have hx : x ∉ t := fun hx => by
          have := h2 x hx
          rw [(hasK_snoc pre x x).2 (.inl rfl)] at this
          cases this
        refine ⟨List.nodup_cons.2 ⟨hx, h1⟩, fun c hc => ?_⟩
        rcases List.mem_cons.1 hc with rfl | hc
        · exact hr.2.2.2
        · have h3 := h2 c hc
          cases hp : hasK pre c
          · rfl
          · rw [(hasK_snoc pre x c).2 (.inr hp)] at h3
            cases h3
theorem kidsL_ok {ns : List S43} : ∀ {d i : Nat}, kidsL ns d i = 0 → ∀ j : Nat, i ≤ j → j < i + d → kidsE ns (j : Int) [] (kidL ns (j : Int)) = 0
  | 0, i, _, j, h1, h2 => by omega
  | d + 1, i, h, j, h1, h2 => by
    obtain ⟨ha, hb⟩ := orE_eq_zero (show orE (kidsE ns (i : Int) [] (kidL ns (i : Int))) (kidsL ns d (i + 1)) = 0 from h)
    by_cases e : j = i
    · subst e; exact ha
    · exact kidsL_ok hb j (by omega) (by omega)
theorem upsE_ok {ns : List S43} : ∀ {d i : Nat}, upsE ns d i = 0 → ∀ j : Nat, i ≤ j → j < i + d → q15 ns (j : Int) ≤ 40 ∧ q15 ns (j : Int) ≤ ns.length
  | 0, i, _, j, h1, h2 => by omega
  | d + 1, i, h, j, h1, h2 => by
    rw [upsE_succ] at h
    by_cases c : ns.length < q15 ns (i : Int)
    · rw [if_pos c] at h; cases h
    · rw [if_neg c] at h
      by_cases c' : 40 < q15 ns (i : Int)
      · rw [if_pos c'] at h; cases h
      · rw [if_neg c'] at h
        by_cases e : j = i
        · subst e; omega
        · exact upsE_ok h j (by omega) (by omega)
theorem tree_of {ns : List S43} (h : docE ns = 0) : Tree ns := by
  unfold docE at h
  by_cases c : 200 < ns.length
  · rw [if_pos c] at h; cases h
  · rw [if_neg c] at h
    by_cases c0 : ns.length = 0
    · rw [if_pos c0] at h; cases h
    · rw [if_neg c0] at h
      obtain ⟨_, h⟩ := orE_eq_zero h
      obtain ⟨hk, hu⟩ := orE_eq_zero h
      obtain ⟨hk, hp⟩ := orE_eq_zero (show orE (kidsL ns ns.length 0) (parsE ns ns.length 0) = 0 from hk)
      have nat : ∀ i : Int, 0 ≤ i → ((i.toNat : Nat) : Int) = i := fun i h0 => by omega
      refine ⟨by omega, by omega, (parsE_ok hp).1, fun i c h0 h1 hc => ?_, fun i h0 h1 => ?_, fun i h0 h1 => ?_, fun i h0 h1 => ?_⟩
      · have := kidsL_ok hk i.toNat (Nat.zero_le _) (by omega)
        rw [nat i h0] at this
        exact kidsE_ok this c hc
      · have := kidsL_ok hk i.toNat (Nat.zero_le _) (by omega)
        rw [nat i h0] at this
        exact (kidsE_once this).1
      · have := (parsE_ok hp).2 i.toNat (Nat.zero_le _) (by omega)
        rw [nat i h0] at this
        rcases parBad_ok this with h | h
        · exact .inl h
        · exact .inr ⟨h.1, h.2.1, (mem_hasK _ _).1 h.2.2⟩
      · have := upsE_ok hu i.toNat (Nat.zero_le _) (by omega)
        rw [nat i h0] at this
        exact this
theorem deepN_stab (ns : List S43) : ∀ (d : Nat) (i : Int), q1e ns d i < d → q1e ns (d + 1) i = q1e ns d i
  | 0, _, h => absurd h (Nat.not_lt_zero _)
  | d + 1, i, h => by
    rw [show q1e ns (d + 2) i = if par ns i ≥ 0 then 1 + q1e ns (d + 1) (par ns i) else 0 from rfl]
    rw [show q1e ns (d + 1) i = if par ns i ≥ 0 then 1 + q1e ns d (par ns i) else 0 from rfl] at h ⊢
    by_cases c : par ns i ≥ 0
    · rw [if_pos c] at h ⊢
      rw [if_pos c, deepN_stab ns d (par ns i) (by omega)]
    · rw [if_neg c, if_neg c]
theorem deep_up {ns : List S43} (h : Tree ns) {i : Int} (h0 : 0 ≤ i) (h1 : i < ns.length) (hp : 0 ≤ par ns i) : q15 ns i = q15 ns (par ns i) + 1 := by
  have hd := (h.deep i h0 h1).2
  unfold q15 at hd ⊢
  rw [show q1e ns (ns.length + 1) i = if par ns i ≥ 0 then 1 + q1e ns ns.length (par ns i) else 0 from rfl, if_pos hp] at hd ⊢
  rw [deepN_stab ns ns.length (par ns i) (by omega)]
  omega
theorem deep_kid {ns : List S43} (h : Tree ns) {i c : Int} (h0 : 0 ≤ i) (h1 : i < ns.length) (hc : c ∈ kidL ns i) : q15 ns c = q15 ns i + 1 := by
  obtain ⟨c0, c1, cp⟩ := h.kid i c h0 h1 hc
  rw [deep_up h c0 c1 (by omega), cp]
theorem deep_root {ns : List S43} (_h : Tree ns) {i : Int} (hp : par ns i < 0) : q15 ns i = 0 := by
  unfold q15
  rw [show q1e ns (ns.length + 1) i = if par ns i ≥ 0 then 1 + q1e ns ns.length (par ns i) else 0 from rfl, if_neg (by omega)]
def upN (ns : List S43) : Nat → Int → Int
  | 0, x => x
  | d + 1, x => upN ns d (par ns x)
theorem upN_succ (ns : List S43) : ∀ (d : Nat) (x : Int), upN ns (d + 1) x = par ns (upN ns d x)
  | 0, _ => rfl
  | d + 1, x => upN_succ ns d (par ns x)
def pre (ns : List S43) : Nat → Int → List Int
  | 0, _ => []
  | d + 1, i => i :: (kidL ns i).flatMap (pre ns d)
def sub (ns : List S43) (i : Int) : List Int := pre ns (41 - q15 ns i) i
theorem flatMap_congr {α β : Type} {f g : α → List β} : ∀ {l : List α}, (∀ x ∈ l, f x = g x) → l.flatMap f = l.flatMap g
  | [], _ => rfl
  | x :: t, h => by
    rw [List.flatMap_cons, List.flatMap_cons, h x (by simp), flatMap_congr fun y hy => h y (by simp [hy])]
theorem sub_eq {ns : List S43} (h : Tree ns) {i : Int} (h0 : 0 ≤ i) (h1 : i < ns.length) : sub ns i = i :: (kidL ns i).flatMap (sub ns) := by
  have hd := (h.deep i h0 h1).1
  obtain ⟨m, hm⟩ : ∃ m, 41 - q15 ns i = m + 1 := ⟨40 - q15 ns i, by omega⟩
  have e : sub ns i = i :: (kidL ns i).flatMap (pre ns m) := by unfold sub; rw [hm]; rfl
  rw [e]
  congr 1
  refine flatMap_congr fun c hc => ?_
  unfold sub
  rw [deep_kid h h0 h1 hc, show 41 - (q15 ns i + 1) = m by omega]
theorem sub_mem {ns : List S43} (h : Tree ns) : ∀ (d : Nat) (i : Int), 41 - q15 ns i ≤ d → 0 ≤ i → i < ns.length → ∀ x ∈ sub ns i, 0 ≤ x ∧ x < ns.length ∧ q15 ns i ≤ q15 ns x ∧ upN ns (q15 ns x - q15 ns i) x = i
  | 0, i, hd, h0, h1, x, hx => by
    have := (h.deep i h0 h1).1
    omega
  | d + 1, i, hd, h0, h1, x, hx => by
    rw [sub_eq h h0 h1] at hx
    rcases List.mem_cons.1 hx with rfl | hx
    · exact ⟨h0, h1, Nat.le_refl _, by rw [Nat.sub_self]; rfl⟩
    · obtain ⟨c, hc, hx⟩ := List.mem_flatMap.1 hx
      obtain ⟨c0, c1, cp⟩ := h.kid i c h0 h1 hc
      have hk := deep_kid h h0 h1 hc
      have hdi := (h.deep i h0 h1).1
      obtain ⟨x0, x1, x2, x3⟩ := sub_mem h d c (by omega) c0 c1 x hx
      refine ⟨x0, x1, by omega, ?_⟩
      rw [show q15 ns x - q15 ns i = (q15 ns x - q15 ns c) + 1 by omega, upN_succ, x3, cp]
theorem sub_facts {ns : List S43} (h : Tree ns) {i : Int} (h0 : 0 ≤ i) (h1 : i < ns.length) {x : Int} (hx : x ∈ sub ns i) : 0 ≤ x ∧ x < ns.length ∧ q15 ns i ≤ q15 ns x ∧ upN ns (q15 ns x - q15 ns i) x = i :=
  sub_mem h _ i (Nat.le_refl _) h0 h1 x hx
theorem nodup_flat {f : Int → List Int} : ∀ {l : List Int}, l.Nodup → (∀ c ∈ l, (f c).Nodup) → (∀ c ∈ l, ∀ c' ∈ l, ∀ x, x ∈ f c → x ∈ f c' → c = c') → (l.flatMap f).Nodup
  | [], _, _, _ => List.nodup_nil
  | c :: t, h, hf, hd => by
    rw [List.flatMap_cons]
    obtain ⟨hc, ht⟩ := List.nodup_cons.1 h
    refine List.nodup_append.2 ⟨hf c (by simp), nodup_flat ht (fun y hy => hf y (by simp [hy])) (fun y hy z hz x h1 h2 => hd y (by simp [hy]) z (by simp [hz]) x h1 h2), fun x hx y hy e => ?_⟩
    subst e
    obtain ⟨z, hz, hxz⟩ := List.mem_flatMap.1 hy
    exact hc (hd c (by simp) z (by simp [hz]) x hx hxz ▸ hz)
theorem sub_once {ns : List S43} (h : Tree ns) : ∀ (d : Nat) (i : Int), 41 - q15 ns i ≤ d → 0 ≤ i → i < ns.length → (sub ns i).Nodup
  | 0, i, hd, h0, h1 => by
    have := (h.deep i h0 h1).1
    omega
  | d + 1, i, hd, h0, h1 => by
    rw [sub_eq h h0 h1]
    have hdi := (h.deep i h0 h1).1
    refine List.nodup_cons.2 ⟨fun hi => ?_, nodup_flat (h.once i h0 h1) (fun c hc => ?_) fun c hc c' hc' x hx hx' => ?_⟩
    · obtain ⟨c, hc, hx⟩ := List.mem_flatMap.1 hi
      obtain ⟨c0, c1, _⟩ := h.kid i c h0 h1 hc
      have := (sub_facts h c0 c1 hx).2.2.1
      have := deep_kid h h0 h1 hc
      omega
    · obtain ⟨c0, c1, _⟩ := h.kid i c h0 h1 hc
      exact sub_once h d c (by have := deep_kid h h0 h1 hc; omega) c0 c1
    · obtain ⟨c0, c1, _⟩ := h.kid i c h0 h1 hc
      obtain ⟨c0', c1', _⟩ := h.kid i c' h0 h1 hc'
      have e := (sub_facts h c0 c1 hx).2.2.2
      have e' := (sub_facts h c0' c1' hx').2.2.2
      rw [deep_kid h h0 h1 hc] at e
      rw [deep_kid h h0 h1 hc'] at e'
      exact e.symm.trans e'
theorem sub_nodup {ns : List S43} (h : Tree ns) {i : Int} (h0 : 0 ≤ i) (h1 : i < ns.length) : (sub ns i).Nodup := sub_once h _ i (Nat.le_refl _) h0 h1
theorem few_of : ∀ (n : Nat) (l : List Int), l.Nodup → (∀ x ∈ l, 0 ≤ x ∧ x < n) → l.length ≤ n
  | 0, [], _, _ => Nat.le_refl _
  | 0, x :: t, _, h => by have := h x (by simp); omega
  | n + 1, l, hn, h => by
    have h2 : (l.filter (fun x => decide (x ≠ (n : Int)))).length ≤ n := by
      refine few_of n _ (hn.filter _) fun x hx => ?_
      have hx := List.mem_filter.1 hx
      have := h x hx.1
      have := of_decide_eq_true hx.2
      omega
    have h3 : l.length ≤ (l.filter (fun x => decide (x ≠ (n : Int)))).length + 1 := by
      clear h h2
      induction l with
      | nil => simp
      | cons x t ih =>
        obtain ⟨hx, ht⟩ := List.nodup_cons.1 hn
        by_cases e : x = (n : Int)
        · have : t.filter (fun x => decide (x ≠ (n : Int))) = t := by
            refine List.filter_eq_self.2 fun y hy => decide_eq_true fun e' => hx ?_
            rw [e, ← e']
            exact hy
          rw [List.filter_cons_of_neg (by simp [e]), this]
          simp
        · rw [List.filter_cons_of_pos (by simp [e])]
          have := ih ht
          simp only [List.length_cons]
          omega
    omega
theorem sub_few {ns : List S43} (h : Tree ns) {i : Int} (h0 : 0 ≤ i) (h1 : i < ns.length) : (sub ns i).length ≤ ns.length :=
  few_of _ _ (sub_nodup h h0 h1) fun _ hx => ⟨(sub_facts h h0 h1 hx).1, (sub_facts h h0 h1 hx).2.1⟩
def idx : List Int → Int → Nat
  | [], _ => 0
  | y :: t, x => if y = x then 0 else idx t x + 1
theorem idx_mid : ∀ (U V : List Int) (x : Int), x ∉ U → idx (U ++ x :: V) x = U.length
  | [], V, x, _ => by simp [idx]
  | u :: U, V, x, h => by
    have h1 : ¬ u = x := fun e => h (by simp [e])
    have h2 : x ∉ U := fun e => h (by simp [e])
    rw [List.cons_append, idx, if_neg h1, idx_mid U V x h2]
    rfl
theorem rd_mid (U V : List Int) (x : Int) : rd (U ++ x :: V) (U.length : Int) = x := by
  simp [rd, List.getD]
def hdI : List Int → Int
  | [] => -1
  | b :: _ => b
def lsI (l : List Int) : Int := l.getLast?.getD (-1)
theorem lsI_snoc (l : List Int) (x : Int) : lsI (l ++ [x]) = x := by simp [lsI]
theorem lsI_app (l m : List Int) (h : m ≠ []) : lsI (l ++ m) = lsI m := by
  unfold lsI
  rw [List.getLast?_append]
  cases hm : m.getLast? with
  | none => exact absurd (List.getLast?_eq_none_iff.1 hm) h
  | some a => rfl
def q1c (ns : List S43) (x by_ : Int) : Int :=
  if par ns x < 0 then -1 else
    if (idx (kidL ns (par ns x)) x : Int) + by_ < 0 ∨ (idx (kidL ns (par ns x)) x : Int) + by_ ≥ ((kidL ns (par ns x)).length : Int) then -1 else rd (kidL ns (par ns x)) ((idx (kidL ns (par ns x)) x : Int) + by_)
def overI (ns : List S43) : Nat → Int → Int
  | 0, _ => -1
  | d + 1, x => if q1c ns x 1 ≥ 0 then q1c ns x 1 else if par ns x < 0 then -1 else overI ns d (par ns x)
def lastD (ns : List S43) : Nat → Int → Int
  | 0, x => x
  | d + 1, x => if (kidL ns x).length = 0 then x else lastD ns d (rd (kidL ns x) ((kidL ns x).length - 1 : Int))
def lastI (ns : List S43) (x : Int) : Int := if q1c ns x (-1) < 0 then par ns x else lastD ns (41 - q15 ns (q1c ns x (-1))) (q1c ns x (-1))
theorem sub_ne {ns : List S43} (h : Tree ns) {i : Int} (h0 : 0 ≤ i) (h1 : i < ns.length) : sub ns i ≠ [] := by rw [sub_eq h h0 h1]; simp
theorem last_sub {ns : List S43} (h : Tree ns) : ∀ (d : Nat) (i : Int), 41 - q15 ns i = d → 0 ≤ i → i < ns.length → lsI (sub ns i) = lastD ns d i
  | 0, i, hd, h0, h1 => by
    have := (h.deep i h0 h1).1
    omega
  | d + 1, i, hd, h0, h1 => by
    rw [sub_eq h h0 h1, lastD]
    by_cases c : (kidL ns i).length = 0
    · rw [if_pos c, List.eq_nil_of_length_eq_zero c]
      rfl
    · rw [if_neg c]
      obtain ⟨U, u, hU⟩ : ∃ U u, kidL ns i = U ++ [u] := ⟨(kidL ns i).dropLast, (kidL ns i).getLast (fun e => c (by rw [e]; rfl)), (List.dropLast_concat_getLast _).symm⟩
      have hm : u ∈ kidL ns i := by rw [hU]; simp
      obtain ⟨u0, u1, _⟩ := h.kid i u h0 h1 hm
      have hk := deep_kid h h0 h1 hm
      rw [hU]
      have e1 : rd (U ++ [u]) (((U ++ [u]).length : Int) - 1) = u := by
        rw [show (((U ++ [u]).length : Int) - 1) = (U.length : Int) by simp]
        exact rd_mid U [] u
      rw [e1, List.flatMap_append, List.flatMap_cons, List.flatMap_nil, List.append_nil, ← List.cons_append, lsI_app _ _ (sub_ne h u0 u1), last_sub h d u (by omega) u0 u1]
theorem way {ns : List S43} (h : Tree ns) : ∀ (d : Nat) (x : Int), q15 ns x = d → 0 ≤ x → x < ns.length → upN ns d x = 0 →
    ∃ A B, sub ns 0 = A ++ sub ns x ++ B ∧ overI ns (d + 1) x = hdI B ∧ lastI ns x = lsI A
  | 0, x, hd, h0, h1, hu => by
    obtain rfl : x = 0 := hu
    have hb : ∀ b, q1c ns 0 b = -1 := fun b => by unfold q1c; rw [if_pos (by rw [h.root]; decide)]
    refine ⟨[], [], by simp, ?_, ?_⟩
    · rw [overI, hb, if_neg (by decide), h.root, if_pos (by decide)]
      rfl
    · unfold lastI
      rw [hb, if_pos (by decide), h.root]
      rfl
  | d + 1, x, hd, h0, h1, hu => by
    have hp : ¬ par ns x < 0 := fun hp => by
      have := deep_root h hp
      omega
    obtain ⟨p, hpe⟩ : ∃ p, par ns x = p := ⟨_, rfl⟩
    rcases h.up x h0 h1 with hr | ⟨p0, p1, hx⟩
    · omega
    have hdp := deep_up h h0 h1 p0
    rw [hpe] at p0 p1 hx hdp hp
    have hu' : upN ns d p = 0 := by
      have : upN ns (d + 1) x = upN ns d (par ns x) := rfl
      rw [hpe] at this
      rw [← this]
      exact hu
    obtain ⟨A, B, hs, ho, hl⟩ := way h d p (by omega) p0 p1 hu'
    obtain ⟨U, V, hk⟩ := List.append_of_mem hx
    have hn := h.once p p0 p1
    rw [hk] at hn
    have hxU : x ∉ U := fun hxU => by
      have := List.nodup_append.1 hn
      exact this.2.2 x hxU x (by simp) rfl
    have hix : idx (kidL ns p) x = U.length := by rw [hk]; exact idx_mid U V x hxU
    have hlen : (kidL ns p).length = U.length + 1 + V.length := by rw [hk]; simp; omega
    have bes : ∀ b, q1c ns x b = if (U.length : Int) + b < 0 ∨ (U.length : Int) + b ≥ ((U.length + 1 + V.length : Nat) : Int) then -1 else rd (U ++ x :: V) ((U.length : Int) + b) := by
      intro b
      unfold q1c
      rw [hpe, if_neg hp, hix, hlen, hk]
    refine ⟨A ++ p :: U.flatMap (sub ns), V.flatMap (sub ns) ++ B, ?_, ?_, ?_⟩
    · rw [hs, sub_eq h p0 p1, hk, List.flatMap_append, List.flatMap_cons]
      simp [List.append_assoc]
    · have step : overI ns (d + 1 + 1) x = if q1c ns x 1 ≥ 0 then q1c ns x 1 else if p < 0 then -1 else overI ns (d + 1) p := by rw [overI, hpe]
      rw [step]
      cases V with
      | nil =>
        have b1 : q1c ns x 1 = -1 := by
          rw [bes]
          exact if_pos (.inr (by simp))
        rw [b1, if_neg (by decide), if_neg hp, ho]
        rfl
      | cons v V =>
        have hv : v ∈ kidL ns p := by rw [hk]; simp
        obtain ⟨v0, v1, _⟩ := h.kid p v p0 p1 hv
        have e : rd (U ++ x :: v :: V) ((U.length : Int) + 1) = v := by
          have := rd_mid (U ++ [x]) V v
          rw [List.append_assoc] at this
          simpa using this
        have b1 : q1c ns x 1 = v := by
          rw [bes, if_neg (by simp only [List.length_cons]; omega), e]
        rw [b1, if_pos v0, List.flatMap_cons, sub_eq h v0 v1]
        rfl
    · unfold lastI
      rcases List.eq_nil_or_concat U with hU | ⟨U', u, hU⟩
      · subst hU
        have b1 : q1c ns x (-1) = -1 := by
          rw [bes]
          exact if_pos (.inl (by simp))
        rw [b1, if_pos (by decide), hpe, List.flatMap_nil]
        exact (lsI_snoc A p).symm
      · rw [List.concat_eq_append] at hU
        subst hU
        have hv : u ∈ kidL ns p := by rw [hk]; simp
        obtain ⟨u0, u1, _⟩ := h.kid p u p0 p1 hv
        have e : rd (U' ++ [u] ++ x :: V) (((U' ++ [u]).length : Int) + -1) = u := by
          have := rd_mid U' (x :: V) u
          rw [show (((U' ++ [u]).length : Int) + -1) = (U'.length : Int) by (simp only [List.length_append, List.length_cons, List.length_nil]; omega), List.append_assoc]
          exact this
        have b1 : q1c ns x (-1) = u := by
          rw [bes, if_neg (by simp only [List.length_append, List.length_cons, List.length_nil]; omega), e]
        rw [b1, if_neg (by omega), List.flatMap_append, List.flatMap_cons, List.flatMap_nil, List.append_nil, ← List.cons_append, ← List.append_assoc, lsI_app _ _ (sub_ne h u0 u1), last_sub h _ u rfl u0 u1]
theorem below_l0 {ns : List S43} (h : Tree ns) (q : Bool) (i : Int) (h0 : 0 ≤ i) (h1 : i < ns.length) (B : Nat) (H : ∀ c ∈ kidL ns i, ∀ k, B < k → clerestoryref1_Below.f k ns q c = some (sub ns c)) (d : Nat) : ∀ (j k : Nat) (o : List Int), j + d = (kidL ns i).length →
    o.length + ((kidL ns i).drop j |>.flatMap (sub ns)).length ≤ 1000 → B + d + 1 < k → clerestoryref1_Below.l0 k i o (j : Int) ns q = some (o ++ ((kidL ns i).drop j).flatMap (sub ns)) := by
  induction d with
  | zero =>
    intro j k o hj ho hk
    obtain ⟨k, rfl⟩ : ∃ z, k = z + 1 := ⟨k - 1, by omega⟩
    rw [clerestoryref1_Below.l0, if_pos h0, if_pos h1, show (q00 ns i).f5 = kidL ns i from rfl, if_neg (by omega), List.drop_eq_nil_of_le (by omega)]
    simp
  | succ d ih =>
    intro j k o hj ho hk
    obtain ⟨k, rfl⟩ : ∃ z, k = z + 1 := ⟨k - 1, by omega⟩
    have hlt : j < (kidL ns i).length := by omega
    have hjn : j ≤ 4611686018427387904 := by
      have := few_of ns.length (kidL ns i) (h.once i h0 h1) fun x hx => ⟨(h.kid i x h0 h1 hx).1, (h.kid i x h0 h1 hx).2.1⟩
      have := h.many
      omega
    have hd := dropK (kidL ns i) j hlt
    rw [hd, List.flatMap_cons, List.length_append] at ho
    have hm : rd (kidL ns i) (j : Int) ∈ kidL ns i := by
      have : rd (kidL ns i) (j : Int) ∈ (kidL ns i).drop j := by rw [hd]; simp
      exact List.mem_of_mem_drop this
    rw [clerestoryref1_Below.l0, if_pos h0, if_pos h1, show (q00 ns i).f5 = kidL ns i from rfl, if_pos (by omega), if_pos (by omega), H _ hm k (by omega), Option.bind_some, if_pos (by omega), w1 j hjn, ih (j + 1) k _ (by omega) (by rw [List.length_append]; omega) (by omega), hd, List.flatMap_cons, List.append_assoc]
theorem below_eq {ns : List S43} (h : Tree ns) (q : Bool) : ∀ (d : Nat) (i : Int), 41 - q15 ns i ≤ d → 0 ≤ i → i < ns.length → ∀ k, 210 * d < k → clerestoryref1_Below.f k ns q i = some (sub ns i)
  | 0, i, hd, h0, h1, k, hk => by
    have := (h.deep i h0 h1).1
    omega
  | d + 1, i, hd, h0, h1, k, hk => by
    obtain ⟨k, rfl⟩ : ∃ z, k = z + 1 := ⟨k - 1, by omega⟩
    have hn := few_of ns.length (kidL ns i) (h.once i h0 h1) fun x hx => ⟨(h.kid i x h0 h1 hx).1, (h.kid i x h0 h1 hx).2.1⟩
    have hm := h.many
    have hl := sub_few h h0 h1
    rw [sub_eq h h0 h1, List.length_cons] at hl
    rw [clerestoryref1_Below.f, sub_eq h h0 h1]
    have := below_l0 h q i h0 h1 (210 * d) (fun c hc k hk => by
      obtain ⟨c0, c1, _⟩ := h.kid i c h0 h1 hc
      have hdk := deep_kid h h0 h1 hc
      have hdi := (h.deep i h0 h1).1
      exact below_eq h q d c (by omega) c0 c1 k hk) (kidL ns i).length 0 k [i] (by omega) (by rw [List.drop_zero]; simp only [List.length_cons, List.length_nil]; omega) (by omega)
    rw [List.drop_zero] at this
    exact this
theorem below_all {ns : List S43} (h : Tree ns) (q : Bool) (i : Int) (h0 : 0 ≤ i) (h1 : i < ns.length) (k : Nat) (hk : 8610 < k) : clerestoryref1_Below.f k ns q i = some (sub ns i) := below_eq h q 41 i (by omega) h0 h1 k (by omega)
end Go.Proofs.YthjnallbbhnndaaDoor.Dm
