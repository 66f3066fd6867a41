/- Written by this session's program (wip/xp) out of the translation as Lean prints it: for each Go function a Lean function and the proof that the code answers just so, on the conditions named in each statement. -/
import Derived.Test.YthjnallbbhnndaaDoorG3
import Derived.Test.YthjnallbbhnndaaDoorRows
import Derived.Test.YthjnallbbhnndaaDoorChecked
import Derived.Lib.LaidIn
import Derived.Lib.LaidU8T
import Derived.Deep.DeepHandedRow
import Derived.Deep.DeepWitnessRowRef
namespace Go.Proofs.YthjnallbbhnndaaDoor.XWp
open Go.Proofs.YthjnallbbhnndaaDoor.Short Go.RowKit Go.Proofs.YthjnallbbhnndaaDoorW.PrintWords Go.Proofs.YthjnallbbhnndaaDoorW.PrintLast Go.Proofs.YthjnallbbhnndaaDoorW.PrintMore
attribute [local go_sem] q15 q13 q1i q1h q0x q0w q14 q12   -- for this text's walks alone
set_option linter.unusedVariables false
set_option linter.unusedSimpArgs false
def clerestoryref1_WalkCommon.l0 : Nat → Int → Int → List Int → Int → Int → List (S43) → Bool → Option (Int)
 | 0, _, _, _, _, _, _, _ => none
 | k + 1, x1, x2, x7, x8, x9, x282000, x282001 => if x9 < (x7.length : Int) then (if 0 ≤ x9 then ((clerestoryref1_Under.f k x282000 x282001 x1 (rd x7 x9)).bind fun t286 => (if t286 = true then ((clerestoryref1_Under.f k x282000 x282001 x2 (rd x7 x9)).bind fun t288 => (if t288 = true then (clerestoryref1_WalkCommon.l0 k x1 x2 x7 (rd x7 x9) (wrap64 (x9 + 1)) x282000 x282001) else (clerestoryref1_WalkCommon.l0 k x1 x2 x7 x8 (wrap64 (x9 + 1)) x282000 x282001))) else (clerestoryref1_WalkCommon.l0 k x1 x2 x7 x8 (wrap64 (x9 + 1)) x282000 x282001))) else (none)) else (some x8)
def clerestoryref1_WalkCommon.f (k : Nat) (l0_0 : List (S43)) (a0_1 : Bool) (a1 : Int) (a2 : Int) : Option (Int) := (clerestoryref1_Below.f k l0_0 a0_1 0).bind fun t282 => (clerestoryref1_WalkCommon.l0 k a1 a2 t282 0 0 l0_0 a0_1)
theorem clerestoryref1_WalkCommon.mono_l : ∀ k, (∀ y0 y1 y2 y3 y4 y5 y6, LeO (clerestoryref1_WalkCommon.l0 k y0 y1 y2 y3 y4 y5 y6) (clerestoryref1_WalkCommon.l0 (k + 1) y0 y1 y2 y3 y4 y5 y6))
 | 0 => fun _ _ _ _ _ _ _ r h => by simp [clerestoryref1_WalkCommon.l0] at h
 | k + 1 => by
  have ih0 := clerestoryref1_WalkCommon.mono_l k
  ·intro y0 y1 y2 y3 y4 y5 y6
   unfold clerestoryref1_WalkCommon.l0
   repeat' first | with_reducible first | apply ih0 | apply clerestoryref1_Below.mono | apply clerestoryref1_Under.mono | exact LeO.refl _ | exact LeO.none _ | refine LeO.ite ?_ ?_ | refine LeO.bind ?_ (fun _ => ?_) | (first | apply ih0 | apply clerestoryref1_Below.mono | apply clerestoryref1_Under.mono | exact LeO.none _ | refine LeO.ite ?_ ?_ | refine LeO.bind ?_ (fun _ => ?_))
theorem clerestoryref1_WalkCommon.mono : ∀ a0 a1 a2 a3 k, LeO (clerestoryref1_WalkCommon.f k a0 a1 a2 a3) (clerestoryref1_WalkCommon.f (k + 1) a0 a1 a2 a3) := by
 intro a0 a1 a2 a3 k
 have ih0 := clerestoryref1_WalkCommon.mono_l k
 unfold clerestoryref1_WalkCommon.f
 repeat' first | with_reducible first | apply ih0 | apply clerestoryref1_Below.mono | apply clerestoryref1_Under.mono | exact LeO.refl _ | exact LeO.none _ | refine LeO.ite ?_ ?_ | refine LeO.bind ?_ (fun _ => ?_) | (first | apply ih0 | apply clerestoryref1_Below.mono | apply clerestoryref1_Under.mono | exact LeO.none _ | refine LeO.ite ?_ ?_ | refine LeO.bind ?_ (fun _ => ?_))
def clerestoryref1_WalkCommon.T6 : Bool × List (List Nat × List Nat) := (true, [([], []), ([], []), ([], []), ([], []), ([2, 3], [2, 3]), ([4], [4]), ([0, 1, 5], [0, 1, 5]), ([6, 6], [6]), ([7], [7]), ([7], [7]), ([7], [7]), ([7], [7]), ([10, 11, 7], [7, 10, 11]), ([12, 7], [7, 12]), ([8, 9, 13, 7, 7], [7, 8, 9, 13]), ([7, 14], [7, 14])])
def clerestoryref1_WalkCommon.B6 : List Nat := [0, 0, 0, 0, 12, 28, 63, 127, 255, 255, 255, 255, 3327, 7423, 16383, 32767]
theorem clerestoryref1_WalkCommon.tab6 : rtab .any (opsOf Tryd.f27 6) = clerestoryref1_WalkCommon.T6 := by kernel_rfl
theorem clerestoryref1_WalkCommon.bits6 : q1l clerestoryref1_WalkCommon.T6.2 clerestoryref1_WalkCommon.B6 = true := by kernel_rfl
set_option maxHeartbeats 8000000 in
set_option maxRecDepth 100000 in
theorem clerestoryref1_WalkCommon.calls (k : Nat) (A0_0 : Option Addr) (c0_0 : Nat) (l0_0 : List (S43)) (a0_1 : Bool) (a1 : Int) (a2 : Int) (r : Int) (w : World) (hr0_0 : Kd.C k43 w A0_0 l0_0.length l0_0) (hc0_0 : l0_0.length ≤ c0_0) (h : clerestoryref1_WalkCommon.f k l0_0 a0_1 a1 a2 = some r) :
 Calls Tryd.prog 27 #[.agg #[.slice A0_0 l0_0.length c0_0, .bool a0_1], .int .i64 a1, .int .i64 a2] w fun e w' => e = .returned (.int .i64 r) ∧ Below w.heap.size w w' := by
 have hu24 := Tryd.underlying24
 have HR0_0 := aS hr0_0
 have HC0_0 := aS hc0_0
 clear hr0_0 hc0_0
 have HB := aS (Below.refl w.heap.size w)
 have H := h; clear h; unfold clerestoryref1_WalkCommon.f at H
 replace H := iB H
 obtain ⟨t282, A4, H⟩ := H
 have H' := aS H
 clear H
 go_enter Tryd.func27, Tryd.ntmps27
 go_wp2_with (first | ((with_reducible refine q0c (N := 3) rfl ?_); refine box0 rfl (N := 3) rfl (cs := #[.slice A0_0 l0_0.length c0_0, .bool a0_1]) (t := 24) (by first | (go_simp; done) | (go_simp; rfl)) (by repeat (first | (with_reducible first | exact HB.out | apply bA | apply bN | apply bD) | exact HB.out)) ?_; clear HB; intro gb281 w5 BK281 GW281 HB; have GE281 := GW281; obtain ⟨hcz6_0, hcz6_1, hfz6_0, hfz6_1⟩ := bk2 BK281.out) | ((with_reducible refine q06 (f := 25) rfl ?_); refine q0k (some 11) rfl rfl Tryd.func25 (by kernel_rfl) rfl #[.agg #[.slice A0_0 l0_0.length c0_0, .bool a0_1], .int .i64 0] rfl (by (try simp only [List.map_toArray, List.map_cons, List.map_nil]); first | done | rfl | (simp only [List.length_drop, List.length_take]; rfl)) ?_; (with_reducible refine (clerestoryref1_Below.calls k _ _ l0_0 a0_1 0 t282 _ ?side1 ?side2 A4.out).mono ?_); (case side1 => repeat (first | exact (Kd.C_below HR0_0.out HB.out) | (with_reducible refine cA ?_ _) | (with_reducible refine cN ?_ _) | (with_reducible refine cD ?_))); (case side2 => exact HC0_0.out); rintro e w7 ⟨v283, rfl, ho0, hb⟩; refine ⟨_, rfl, ?_⟩; have HO284 := aS (Kd.R_lower ho0 (q0g (by repeat (first | (with_reducible first | exact HB.out | apply bA | apply bN | apply bD | refine bS ?_ GE281.out) | exact HB.out)))); replace BK281 := aS (q08 (g := gb281) (o := .cells #[.slice A0_0 l0_0.length c0_0, .bool a0_1] 24 (0, 0)) (by (with_reducible repeat (first | refine kN ?_ _ | refine kD ?_ | refine kA ?_ _)); exact BK281.out) hb); replace HB := aS (q03 (by repeat (first | (with_reducible first | exact HB.out | apply bA | apply bN | apply bD | refine bS ?_ GE281.out) | exact HB.out)) hb); (try clear hb); (try clear hb2); (try clear hk); (try clear hi); (try clear ho0)))
 go_loopg [8, 9] k (fun kq v8 v9 w' => ∃ (x8_1 : Int) (x9_1 : Int), v8 = .int .i64 x8_1 ∧ v9 = .int .i64 x9_1 ∧ Aside0 (clerestoryref1_WalkCommon.l0 kq a1 a2 t282 x8_1 x9_1 l0_0 a0_1 = some r) ∧ Aside0 (kq ≤ k) ∧ Aside0 (Kd.R (Kd.int .i64) 3 w' w.heap.size (fun _ => True) v283 t282) ∧ Aside0 (w'.heap[gb281]? = some (.cells #[(.slice A0_0 l0_0.length c0_0), .bool a0_1] 24 (0, 0))) ∧ Aside0 (Below w.heap.size w w'))
 case atStart => exact ⟨(0), (0), (by first | rfl | (simp; done) | simp [*]), (by first | rfl | (simp; done) | simp [*]), H', ⟨Nat.le_refl _⟩, ⟨by (with_reducible repeat (first | apply rA | apply rN | apply rD)); exact HO284.out⟩, ⟨by (with_reducible repeat (first | refine kN ?_ _ | refine kD ?_ | refine kA ?_ _)); exact BK281.out⟩, ⟨by repeat (first | (with_reducible first | exact HB.out | apply bA | apply bN | apply bD | refine bS ?_ GE281.out) | exact HB.out)⟩⟩
 case round =>
  clear H'
  obtain ⟨x8_1, x9_1, rfl, rfl, HA, HK1, HO_7, BK281, HB⟩ := hrel
  cases gk with
  | zero => exact absurd HA.out (by simp [clerestoryref1_WalkCommon.l0])
  | succ k1 =>
   have H := HA.out
   clear HA
   simp only [clerestoryref1_WalkCommon.l0] at H
   refine iT H ?p8 ?n8 <;> clear H
   case' p8 => intro c8b0 H; refine iLp H ?_; clear H; intro c9b0 H; replace H := iB H; obtain ⟨t286, A10, H⟩ := H; refine iV H ?p11 ?n11 <;> clear H
   case' p11 => intro c11 H; subst c11; replace H := iB H; obtain ⟨t288, A12, H⟩ := H; refine iV H ?p13 ?n13 <;> clear H
   case' p13 => intro c13 H; subst c13
   case' n13 => intro c13 H; subst c13
   case' n11 => intro c11 H; subst c11
   case' n8 => intro c8b0 H
   case p13 =>
    have H' := aS H
    clear H
    obtain ⟨Ao14, co14, eo14⟩ := Kd.R_slice HO_7.out
    subst eo14
    try go_wp2
    have n0_ := aS (Kd.R_drew HO_7.out)
    have n1_ := aS (q1e BK281.out)
    have n2_ := aS (q0s HB.out)
    clear HO_7
    clear BK281
    clear HB
    have HO_7 := n0_
    have BK281 := n1_
    have HB := n2_
    clear n0_ n1_ n2_
    obtain ⟨ad285, e285, hx285_0, p285, q285⟩ := atIA (Kd.R_reads' HO_7.out).2.2 x9_1 (by first | with_reducible assumption | assumption) (by first | with_reducible assumption | assumption)
    cases e285
    obtain ⟨ad287, e287, hx287_0, p287, q287⟩ := atIA (Kd.R_reads' HO_7.out).2.2 x9_1 (by first | with_reducible assumption | assumption) (by first | with_reducible assumption | assumption)
    obtain rfl : ad285 = ad287 := (by injection e287)
    refine start_ (n := 16) (S := fun w' => w'.cell? ⟨gb281, 0, none⟩ = some (.slice A0_0 l0_0.length c0_0) ∧ w'.cell? ⟨gb281, 1, none⟩ = some (.bool a0_1) ∧ w'.cell? (ad285.add (x9_1).toNat) = some (.int .i64 (rd t282 x9_1)) ∧ w'.cell? (ad285.add (x9_1).toNat) = some (.int .i64 (rd t282 x9_1))) (ds := []) #[false, false, false, false, false, false, false, false, false, false, false, false, false, false, false, false] (by kernel_rfl) rfl rfl ⟨(q05 BK281.out 0).trans rfl, (q05 BK281.out 1).trans rfl, hx285_0, hx287_0⟩ (fun hHeld => ?_); refine q1c clerestoryref1_WalkCommon.tab6 clerestoryref1_WalkCommon.bits6 (fun HT_ HW_ => ?_)
    generalize wr.drew = w15 at HO_7 BK281 HB hx285_0 hx287_0 hHeld ⊢
    refine q0o (i := 1) (N := some 19) (v := ?_) (a' := ?_) #[false, true, false, false, false, false, false, false, false, false, false, false, false, false, false, false] rfl rfl (q0i HT_.out (by kernel_rfl)) (fun _ _ _ h => h) (Or.inl ⟨by rfl, ?_⟩) ?_ ?_
    rotate_left
    ·intro w'
     go_simp
     with_reducible rfl
    rotate_left
    ·simp only [Act.put, s1, s2, s3, q0d, q0e]
     rfl
    refine q0o (i := 2) (N := some 20) (v := ?_) (a' := ?_) #[false, true, true, false, false, false, false, false, false, false, false, false, false, false, false, false] rfl rfl (q0i HT_.out (by kernel_rfl)) (fun _ _ _ h => h) (Or.inl ⟨by rfl, ?_⟩) ?_ ?_
    rotate_left
    ·intro w'
     go_simp
     with_reducible rfl
    rotate_left
    ·simp only [Act.put, s1, s2, s3, q0d, q0e]
     rfl
    refine q0o (i := 3) (N := some 21) (v := ?_) (a' := ?_) #[false, true, true, true, false, false, false, false, false, false, false, false, false, false, false, false] rfl rfl (q0i HT_.out (by kernel_rfl)) (fun _ _ _ h => h) (Or.inl ⟨by rfl, ?_⟩) ?_ ?_
    rotate_left
    ·intro w'
     go_simp
     with_reducible rfl
    rotate_left
    ·simp only [Act.put, s1, s2, s3, q0d, q0e]
     rfl
    refine q0o (i := 4) (N := some 22) (v := ?_) (a' := ?_) #[false, true, true, true, true, false, false, false, false, false, false, false, false, false, false, false] rfl rfl (q0i HT_.out (by kernel_rfl)) (fun _ _ _ h => h) (Or.inl ⟨by rfl, ?_⟩) ?_ ?_
    rotate_left
    ·intro w'
     go_simp
     with_reducible rfl
    rotate_left
    ·simp only [Act.put, s1, s2, s3, q0d, q0e]
     rfl
    refine take_ (i := 0) (N := some 18) (v := ?_) (a' := ?_) #[true, true, true, true, true, false, false, false, false, false, false, false, false, false, false, false] rfl rfl (q0r HT_.out HW_.out (by kernel_rfl)) (fun _ _ _ h => h) (Or.inl ⟨by rfl, ?_⟩) hHeld ?_ ?_
    rotate_left
    ·rintro w' ⟨s0, s1, s2, s3⟩
     go_simp
     with_reducible rfl
    rotate_left
    ·simp only [Act.put, s1, s2, s3, q0d, q0e]
     rfl
    refine take_ (i := 5) (N := some 23) (v := ?_) (a' := ?_) #[true, true, true, true, true, true, false, false, false, false, false, false, false, false, false, false] rfl rfl (q0r HT_.out HW_.out (by kernel_rfl)) (fun _ _ _ h => h) (Or.inl ⟨by rfl, ?_⟩) hHeld ?_ ?_
    rotate_left
    ·rintro w' ⟨s0, s1, s2, s3⟩
     go_simp
     with_reducible rfl
    rotate_left
    ·simp only [Act.put, s1, s2, s3, q0d, q0e]
     rfl
    refine one_ (i := 6) (N := some 24) #[true, true, true, true, true, true, true, false, false, false, false, false, false, false, false, false] rfl rfl (one_of HT_.out (by kernel_rfl)) (by decide) (fun K hK => ?_)
    refine goes_ Tryd.func26 (by kernel_rfl) rfl #[.agg #[.slice A0_0 l0_0.length c0_0, .bool a0_1], .int .i64 a1, .int .i64 (rd t282 x9_1)] (by rfl) rfl rfl (by (try simp only [List.map_toArray, List.map_cons, List.map_nil]); first | done | rfl | (simp only [List.length_drop, List.length_take]; rfl)) ?_
    with_reducible refine (clerestoryref1_Under.calls k1 _ _ l0_0 a0_1 a1 (rd t282 x9_1) true _ ?side1 ?side2 A10.out).mono ?_
    (case side1 => repeat (first | exact (Kd.C_below HR0_0.out HB.out) | (with_reducible refine cA ?_ _) | (with_reducible refine cN ?_ _) | (with_reducible refine cD ?_)))
    (case side2 => exact HC0_0.out)
    rintro e w16 ⟨rfl, hb⟩
    have HS2_ := (hb.cell (World.block_lt_of_cell? _ _ (hHeld.2.2.1))).trans (hHeld.2.2.1)
    have HS3_ := (hb.cell (World.block_lt_of_cell? _ _ (hHeld.2.2.2))).trans (hHeld.2.2.2)
    refine ⟨_, rfl, ?_⟩
    have n0_ := aS (Kd.R_below (by (with_reducible repeat (first | apply rA | apply rN | apply rD)); exact HO_7.out) hb)
    have n1_ := aS (q08 (g := gb281) (o := .cells #[.slice A0_0 l0_0.length c0_0, .bool a0_1] 24 (0, 0)) (by (with_reducible repeat (first | refine kN ?_ _ | refine kD ?_ | refine kA ?_ _)); exact BK281.out) hb)
    have n2_ := aS (q03 (by repeat (first | (with_reducible first | exact HB.out | apply bA | apply bN | apply bD | refine bS ?_ GE281.out) | exact HB.out)) hb)
    clear HO_7
    clear BK281
    clear HB
    have HO_7 := n0_
    have BK281 := n1_
    have HB := n2_
    clear n0_ n1_ n2_
    (try clear hb)
    (try clear hb2)
    (try clear hk)
    (try clear hi)
    refine hK.out _ _ ⟨(q05 BK281.out 0).trans rfl, (q05 BK281.out 1).trans rfl, HS2_, HS3_⟩ (fun hHeld => ?_)
    clear hK K
    refine norm_ (a' := ?_) ?_ ?_
    rotate_left
    ·show Act.put _ (some 24) _ = _
     simp only [Act.put, s1, s2, s3, q0d, q0e]
     rfl
    refine q0o (i := 7) (N := some 25) (v := ?_) (a' := ?_) #[true, true, true, true, true, true, true, true, false, false, false, false, false, false, false, false] rfl rfl (q0i HT_.out (by kernel_rfl)) (fun _ _ _ h => h) (Or.inl ⟨by rfl, ?_⟩) ?_ ?_
    rotate_left
    ·intro w'
     go_simp
     with_reducible rfl
    rotate_left
    ·simp only [Act.put, s1, s2, s3, q0d, q0e]
     rfl
    refine q0o (i := 9) (N := some 27) (v := ?_) (a' := ?_) #[true, true, true, true, true, true, true, true, false, true, false, false, false, false, false, false] rfl rfl (q0i HT_.out (by kernel_rfl)) (fun _ _ _ h => h) (Or.inl ⟨by rfl, ?_⟩) ?_ ?_
    rotate_left
    ·intro w'
     go_simp
     with_reducible rfl
    rotate_left
    ·simp only [Act.put, s1, s2, s3, q0d, q0e]
     rfl
    refine q0o (i := 10) (N := some 28) (v := ?_) (a' := ?_) #[true, true, true, true, true, true, true, true, false, true, true, false, false, false, false, false] rfl rfl (q0i HT_.out (by kernel_rfl)) (fun _ _ _ h => h) (Or.inl ⟨by rfl, ?_⟩) ?_ ?_
    rotate_left
    ·intro w'
     go_simp
     with_reducible rfl
    rotate_left
    ·simp only [Act.put, s1, s2, s3, q0d, q0e]
     rfl
    refine q0o (i := 11) (N := some 29) (v := ?_) (a' := ?_) #[true, true, true, true, true, true, true, true, false, true, true, true, false, false, false, false] rfl rfl (q0i HT_.out (by kernel_rfl)) (fun _ _ _ h => h) (Or.inl ⟨by rfl, ?_⟩) ?_ ?_
    rotate_left
    ·intro w'
     go_simp
     with_reducible rfl
    rotate_left
    ·simp only [Act.put, s1, s2, s3, q0d, q0e]
     rfl
    refine q0o (i := 12) (N := some 30) (v := ?_) (a' := ?_) #[true, true, true, true, true, true, true, true, false, true, true, true, true, false, false, false] rfl rfl (q0i HT_.out (by kernel_rfl)) (fun _ _ _ h => h) (Or.inl ⟨by rfl, ?_⟩) ?_ ?_
    rotate_left
    ·intro w'
     go_simp
     with_reducible rfl
    rotate_left
    ·simp only [Act.put, s1, s2, s3, q0d, q0e]
     rfl
    refine take_ (i := 8) (N := some 26) (v := ?_) (a' := ?_) #[true, true, true, true, true, true, true, true, true, true, true, true, true, false, false, false] rfl rfl (q0r HT_.out HW_.out (by kernel_rfl)) (fun _ _ _ h => h) (Or.inl ⟨by rfl, ?_⟩) hHeld ?_ ?_
    rotate_left
    ·rintro w' ⟨s0, s1, s2, s3⟩
     go_simp
     with_reducible rfl
    rotate_left
    ·simp only [Act.put, s1, s2, s3, q0d, q0e]
     rfl
    refine take_ (i := 13) (N := some 31) (v := ?_) (a' := ?_) #[true, true, true, true, true, true, true, true, true, true, true, true, true, true, false, false] rfl rfl (q0r HT_.out HW_.out (by kernel_rfl)) (fun _ _ _ h => h) (Or.inl ⟨by rfl, ?_⟩) hHeld ?_ ?_
    rotate_left
    ·rintro w' ⟨s0, s1, s2, s3⟩
     go_simp
     with_reducible rfl
    rotate_left
    ·simp only [Act.put, s1, s2, s3, q0d, q0e]
     rfl
    refine one_ (i := 14) (N := some 32) #[true, true, true, true, true, true, true, true, true, true, true, true, true, true, true, false] rfl rfl (one_of HT_.out (by kernel_rfl)) (by decide) (fun K hK => ?_)
    refine goes_ Tryd.func26 (by kernel_rfl) rfl #[.agg #[.slice A0_0 l0_0.length c0_0, .bool a0_1], .int .i64 a2, .int .i64 (rd t282 x9_1)] (by rfl) rfl rfl (by (try simp only [List.map_toArray, List.map_cons, List.map_nil]); first | done | rfl | (simp only [List.length_drop, List.length_take]; rfl)) ?_
    with_reducible refine (clerestoryref1_Under.calls k1 _ _ l0_0 a0_1 a2 (rd t282 x9_1) true _ ?side1 ?side2 A12.out).mono ?_
    (case side1 => repeat (first | exact (Kd.C_below HR0_0.out HB.out) | (with_reducible refine cA ?_ _) | (with_reducible refine cN ?_ _) | (with_reducible refine cD ?_)))
    (case side2 => exact HC0_0.out)
    rintro e w17 ⟨rfl, hb⟩
    have HS2_ := (hb.cell (World.block_lt_of_cell? _ _ (hHeld.2.2.1))).trans (hHeld.2.2.1)
    have HS3_ := (hb.cell (World.block_lt_of_cell? _ _ (hHeld.2.2.2))).trans (hHeld.2.2.2)
    refine ⟨_, rfl, ?_⟩
    have n0_ := aS (Kd.R_below (by (with_reducible repeat (first | apply rA | apply rN | apply rD)); exact HO_7.out) hb)
    have n1_ := aS (q08 (g := gb281) (o := .cells #[.slice A0_0 l0_0.length c0_0, .bool a0_1] 24 (0, 0)) (by (with_reducible repeat (first | refine kN ?_ _ | refine kD ?_ | refine kA ?_ _)); exact BK281.out) hb)
    have n2_ := aS (q03 (by repeat (first | (with_reducible first | exact HB.out | apply bA | apply bN | apply bD | refine bS ?_ GE281.out) | exact HB.out)) hb)
    clear HO_7
    clear BK281
    clear HB
    have HO_7 := n0_
    have BK281 := n1_
    have HB := n2_
    clear n0_ n1_ n2_
    (try clear hb)
    (try clear hb2)
    (try clear hk)
    (try clear hi)
    refine hK.out _ _ ⟨(q05 BK281.out 0).trans rfl, (q05 BK281.out 1).trans rfl, HS2_, HS3_⟩ (fun hHeld => ?_)
    clear hK K
    refine norm_ (a' := ?_) ?_ ?_
    rotate_left
    ·show Act.put _ (some 32) _ = _
     simp only [Act.put, s1, s2, s3, q0d, q0e]
     rfl
    refine q0o (i := 15) (N := some 33) (v := ?_) (a' := ?_) #[true, true, true, true, true, true, true, true, true, true, true, true, true, true, true, true] rfl rfl (q0i HT_.out (by kernel_rfl)) (fun _ _ _ h => h) (Or.inl ⟨by rfl, ?_⟩) ?_ ?_
    rotate_left
    ·intro w'
     go_simp
     with_reducible rfl
    rotate_left
    ·simp only [Act.put, s1, s2, s3, q0d, q0e]
     rfl
    refine done_ (done_of HT_.out (by kernel_rfl)) ?_
    obtain ⟨ad289, e289, hx289_0, p289, q289⟩ := atIA (Kd.R_reads' HO_7.out).2.2 x9_1 (by first | with_reducible assumption | assumption) (by first | with_reducible assumption | assumption)
    obtain rfl : ad285 = ad289 := (by injection e289)
    try go_wp2
    go_roundg k1
    case measure => have := HK1.out; omega
    case rel => exact ⟨(rd t282 x9_1), (wrap64 (x9_1 + 1)), (by first | rfl | (simp; done) | simp [*]), (by first | rfl | (simp; done) | simp [*]), H', ⟨by have := HK1.out; omega⟩, ⟨by (with_reducible repeat (first | apply rA | apply rN | apply rD)); exact HO_7.out⟩, ⟨by (with_reducible repeat (first | refine kN ?_ _ | refine kD ?_ | refine kA ?_ _)); exact BK281.out⟩, ⟨by repeat (first | (with_reducible first | exact HB.out | apply bA | apply bN | apply bD | refine bS ?_ GE281.out) | exact HB.out)⟩⟩
   case n13 =>
    have H' := aS H
    clear H
    obtain ⟨Ao18, co18, eo18⟩ := Kd.R_slice HO_7.out
    subst eo18
    try go_wp2
    have n0_ := aS (Kd.R_drew HO_7.out)
    have n1_ := aS (q1e BK281.out)
    have n2_ := aS (q0s HB.out)
    clear HO_7
    clear BK281
    clear HB
    have HO_7 := n0_
    have BK281 := n1_
    have HB := n2_
    clear n0_ n1_ n2_
    obtain ⟨ad285, e285, hx285_0, p285, q285⟩ := atIA (Kd.R_reads' HO_7.out).2.2 x9_1 (by first | with_reducible assumption | assumption) (by first | with_reducible assumption | assumption)
    cases e285
    obtain ⟨ad287, e287, hx287_0, p287, q287⟩ := atIA (Kd.R_reads' HO_7.out).2.2 x9_1 (by first | with_reducible assumption | assumption) (by first | with_reducible assumption | assumption)
    obtain rfl : ad285 = ad287 := (by injection e287)
    refine start_ (n := 16) (S := fun w' => w'.cell? ⟨gb281, 0, none⟩ = some (.slice A0_0 l0_0.length c0_0) ∧ w'.cell? ⟨gb281, 1, none⟩ = some (.bool a0_1) ∧ w'.cell? (ad285.add (x9_1).toNat) = some (.int .i64 (rd t282 x9_1)) ∧ w'.cell? (ad285.add (x9_1).toNat) = some (.int .i64 (rd t282 x9_1))) (ds := []) #[false, false, false, false, false, false, false, false, false, false, false, false, false, false, false, false] (by kernel_rfl) rfl rfl ⟨(q05 BK281.out 0).trans rfl, (q05 BK281.out 1).trans rfl, hx285_0, hx287_0⟩ (fun hHeld => ?_); refine q1c clerestoryref1_WalkCommon.tab6 clerestoryref1_WalkCommon.bits6 (fun HT_ HW_ => ?_)
    generalize wr.drew = w19 at HO_7 BK281 HB hx285_0 hx287_0 hHeld ⊢
    refine q0o (i := 1) (N := some 19) (v := ?_) (a' := ?_) #[false, true, false, false, false, false, false, false, false, false, false, false, false, false, false, false] rfl rfl (q0i HT_.out (by kernel_rfl)) (fun _ _ _ h => h) (Or.inl ⟨by rfl, ?_⟩) ?_ ?_
    rotate_left
    ·intro w'
     go_simp
     with_reducible rfl
    rotate_left
    ·simp only [Act.put, s1, s2, s3, q0d, q0e]
     rfl
    refine q0o (i := 2) (N := some 20) (v := ?_) (a' := ?_) #[false, true, true, false, false, false, false, false, false, false, false, false, false, false, false, false] rfl rfl (q0i HT_.out (by kernel_rfl)) (fun _ _ _ h => h) (Or.inl ⟨by rfl, ?_⟩) ?_ ?_
    rotate_left
    ·intro w'
     go_simp
     with_reducible rfl
    rotate_left
    ·simp only [Act.put, s1, s2, s3, q0d, q0e]
     rfl
    refine q0o (i := 3) (N := some 21) (v := ?_) (a' := ?_) #[false, true, true, true, false, false, false, false, false, false, false, false, false, false, false, false] rfl rfl (q0i HT_.out (by kernel_rfl)) (fun _ _ _ h => h) (Or.inl ⟨by rfl, ?_⟩) ?_ ?_
    rotate_left
    ·intro w'
     go_simp
     with_reducible rfl
    rotate_left
    ·simp only [Act.put, s1, s2, s3, q0d, q0e]
     rfl
    refine q0o (i := 4) (N := some 22) (v := ?_) (a' := ?_) #[false, true, true, true, true, false, false, false, false, false, false, false, false, false, false, false] rfl rfl (q0i HT_.out (by kernel_rfl)) (fun _ _ _ h => h) (Or.inl ⟨by rfl, ?_⟩) ?_ ?_
    rotate_left
    ·intro w'
     go_simp
     with_reducible rfl
    rotate_left
    ·simp only [Act.put, s1, s2, s3, q0d, q0e]
     rfl
    refine take_ (i := 0) (N := some 18) (v := ?_) (a' := ?_) #[true, true, true, true, true, false, false, false, false, false, false, false, false, false, false, false] rfl rfl (q0r HT_.out HW_.out (by kernel_rfl)) (fun _ _ _ h => h) (Or.inl ⟨by rfl, ?_⟩) hHeld ?_ ?_
    rotate_left
    ·rintro w' ⟨s0, s1, s2, s3⟩
     go_simp
     with_reducible rfl
    rotate_left
    ·simp only [Act.put, s1, s2, s3, q0d, q0e]
     rfl
    refine take_ (i := 5) (N := some 23) (v := ?_) (a' := ?_) #[true, true, true, true, true, true, false, false, false, false, false, false, false, false, false, false] rfl rfl (q0r HT_.out HW_.out (by kernel_rfl)) (fun _ _ _ h => h) (Or.inl ⟨by rfl, ?_⟩) hHeld ?_ ?_
    rotate_left
    ·rintro w' ⟨s0, s1, s2, s3⟩
     go_simp
     with_reducible rfl
    rotate_left
    ·simp only [Act.put, s1, s2, s3, q0d, q0e]
     rfl
    refine one_ (i := 6) (N := some 24) #[true, true, true, true, true, true, true, false, false, false, false, false, false, false, false, false] rfl rfl (one_of HT_.out (by kernel_rfl)) (by decide) (fun K hK => ?_)
    refine goes_ Tryd.func26 (by kernel_rfl) rfl #[.agg #[.slice A0_0 l0_0.length c0_0, .bool a0_1], .int .i64 a1, .int .i64 (rd t282 x9_1)] (by rfl) rfl rfl (by (try simp only [List.map_toArray, List.map_cons, List.map_nil]); first | done | rfl | (simp only [List.length_drop, List.length_take]; rfl)) ?_
    with_reducible refine (clerestoryref1_Under.calls k1 _ _ l0_0 a0_1 a1 (rd t282 x9_1) true _ ?side1 ?side2 A10.out).mono ?_
    (case side1 => repeat (first | exact (Kd.C_below HR0_0.out HB.out) | (with_reducible refine cA ?_ _) | (with_reducible refine cN ?_ _) | (with_reducible refine cD ?_)))
    (case side2 => exact HC0_0.out)
    rintro e w20 ⟨rfl, hb⟩
    have HS2_ := (hb.cell (World.block_lt_of_cell? _ _ (hHeld.2.2.1))).trans (hHeld.2.2.1)
    have HS3_ := (hb.cell (World.block_lt_of_cell? _ _ (hHeld.2.2.2))).trans (hHeld.2.2.2)
    refine ⟨_, rfl, ?_⟩
    have n0_ := aS (Kd.R_below (by (with_reducible repeat (first | apply rA | apply rN | apply rD)); exact HO_7.out) hb)
    have n1_ := aS (q08 (g := gb281) (o := .cells #[.slice A0_0 l0_0.length c0_0, .bool a0_1] 24 (0, 0)) (by (with_reducible repeat (first | refine kN ?_ _ | refine kD ?_ | refine kA ?_ _)); exact BK281.out) hb)
    have n2_ := aS (q03 (by repeat (first | (with_reducible first | exact HB.out | apply bA | apply bN | apply bD | refine bS ?_ GE281.out) | exact HB.out)) hb)
    clear HO_7
    clear BK281
    clear HB
    have HO_7 := n0_
    have BK281 := n1_
    have HB := n2_
    clear n0_ n1_ n2_
    (try clear hb)
    (try clear hb2)
    (try clear hk)
    (try clear hi)
    refine hK.out _ _ ⟨(q05 BK281.out 0).trans rfl, (q05 BK281.out 1).trans rfl, HS2_, HS3_⟩ (fun hHeld => ?_)
    clear hK K
    refine norm_ (a' := ?_) ?_ ?_
    rotate_left
    ·show Act.put _ (some 24) _ = _
     simp only [Act.put, s1, s2, s3, q0d, q0e]
     rfl
    refine q0o (i := 7) (N := some 25) (v := ?_) (a' := ?_) #[true, true, true, true, true, true, true, true, false, false, false, false, false, false, false, false] rfl rfl (q0i HT_.out (by kernel_rfl)) (fun _ _ _ h => h) (Or.inl ⟨by rfl, ?_⟩) ?_ ?_
    rotate_left
    ·intro w'
     go_simp
     with_reducible rfl
    rotate_left
    ·simp only [Act.put, s1, s2, s3, q0d, q0e]
     rfl
    refine q0o (i := 9) (N := some 27) (v := ?_) (a' := ?_) #[true, true, true, true, true, true, true, true, false, true, false, false, false, false, false, false] rfl rfl (q0i HT_.out (by kernel_rfl)) (fun _ _ _ h => h) (Or.inl ⟨by rfl, ?_⟩) ?_ ?_
    rotate_left
    ·intro w'
     go_simp
     with_reducible rfl
    rotate_left
    ·simp only [Act.put, s1, s2, s3, q0d, q0e]
     rfl
    refine q0o (i := 10) (N := some 28) (v := ?_) (a' := ?_) #[true, true, true, true, true, true, true, true, false, true, true, false, false, false, false, false] rfl rfl (q0i HT_.out (by kernel_rfl)) (fun _ _ _ h => h) (Or.inl ⟨by rfl, ?_⟩) ?_ ?_
    rotate_left
    ·intro w'
     go_simp
     with_reducible rfl
    rotate_left
    ·simp only [Act.put, s1, s2, s3, q0d, q0e]
     rfl
    refine q0o (i := 11) (N := some 29) (v := ?_) (a' := ?_) #[true, true, true, true, true, true, true, true, false, true, true, true, false, false, false, false] rfl rfl (q0i HT_.out (by kernel_rfl)) (fun _ _ _ h => h) (Or.inl ⟨by rfl, ?_⟩) ?_ ?_
    rotate_left
    ·intro w'
     go_simp
     with_reducible rfl
    rotate_left
    ·simp only [Act.put, s1, s2, s3, q0d, q0e]
     rfl
    refine q0o (i := 12) (N := some 30) (v := ?_) (a' := ?_) #[true, true, true, true, true, true, true, true, false, true, true, true, true, false, false, false] rfl rfl (q0i HT_.out (by kernel_rfl)) (fun _ _ _ h => h) (Or.inl ⟨by rfl, ?_⟩) ?_ ?_
    rotate_left
    ·intro w'
     go_simp
     with_reducible rfl
    rotate_left
    ·simp only [Act.put, s1, s2, s3, q0d, q0e]
     rfl
    refine take_ (i := 8) (N := some 26) (v := ?_) (a' := ?_) #[true, true, true, true, true, true, true, true, true, true, true, true, true, false, false, false] rfl rfl (q0r HT_.out HW_.out (by kernel_rfl)) (fun _ _ _ h => h) (Or.inl ⟨by rfl, ?_⟩) hHeld ?_ ?_
    rotate_left
    ·rintro w' ⟨s0, s1, s2, s3⟩
     go_simp
     with_reducible rfl
    rotate_left
    ·simp only [Act.put, s1, s2, s3, q0d, q0e]
     rfl
    refine take_ (i := 13) (N := some 31) (v := ?_) (a' := ?_) #[true, true, true, true, true, true, true, true, true, true, true, true, true, true, false, false] rfl rfl (q0r HT_.out HW_.out (by kernel_rfl)) (fun _ _ _ h => h) (Or.inl ⟨by rfl, ?_⟩) hHeld ?_ ?_
    rotate_left
    ·rintro w' ⟨s0, s1, s2, s3⟩
     go_simp
     with_reducible rfl
    rotate_left
    ·simp only [Act.put, s1, s2, s3, q0d, q0e]
     rfl
    refine one_ (i := 14) (N := some 32) #[true, true, true, true, true, true, true, true, true, true, true, true, true, true, true, false] rfl rfl (one_of HT_.out (by kernel_rfl)) (by decide) (fun K hK => ?_)
    refine goes_ Tryd.func26 (by kernel_rfl) rfl #[.agg #[.slice A0_0 l0_0.length c0_0, .bool a0_1], .int .i64 a2, .int .i64 (rd t282 x9_1)] (by rfl) rfl rfl (by (try simp only [List.map_toArray, List.map_cons, List.map_nil]); first | done | rfl | (simp only [List.length_drop, List.length_take]; rfl)) ?_
    with_reducible refine (clerestoryref1_Under.calls k1 _ _ l0_0 a0_1 a2 (rd t282 x9_1) false _ ?side1 ?side2 A12.out).mono ?_
    (case side1 => repeat (first | exact (Kd.C_below HR0_0.out HB.out) | (with_reducible refine cA ?_ _) | (with_reducible refine cN ?_ _) | (with_reducible refine cD ?_)))
    (case side2 => exact HC0_0.out)
    rintro e w21 ⟨rfl, hb⟩
    have HS2_ := (hb.cell (World.block_lt_of_cell? _ _ (hHeld.2.2.1))).trans (hHeld.2.2.1)
    have HS3_ := (hb.cell (World.block_lt_of_cell? _ _ (hHeld.2.2.2))).trans (hHeld.2.2.2)
    refine ⟨_, rfl, ?_⟩
    have n0_ := aS (Kd.R_below (by (with_reducible repeat (first | apply rA | apply rN | apply rD)); exact HO_7.out) hb)
    have n1_ := aS (q08 (g := gb281) (o := .cells #[.slice A0_0 l0_0.length c0_0, .bool a0_1] 24 (0, 0)) (by (with_reducible repeat (first | refine kN ?_ _ | refine kD ?_ | refine kA ?_ _)); exact BK281.out) hb)
    have n2_ := aS (q03 (by repeat (first | (with_reducible first | exact HB.out | apply bA | apply bN | apply bD | refine bS ?_ GE281.out) | exact HB.out)) hb)
    clear HO_7
    clear BK281
    clear HB
    have HO_7 := n0_
    have BK281 := n1_
    have HB := n2_
    clear n0_ n1_ n2_
    (try clear hb)
    (try clear hb2)
    (try clear hk)
    (try clear hi)
    refine hK.out _ _ ⟨(q05 BK281.out 0).trans rfl, (q05 BK281.out 1).trans rfl, HS2_, HS3_⟩ (fun hHeld => ?_)
    clear hK K
    refine norm_ (a' := ?_) ?_ ?_
    rotate_left
    ·show Act.put _ (some 32) _ = _
     simp only [Act.put, s1, s2, s3, q0d, q0e]
     rfl
    refine q0o (i := 15) (N := some 33) (v := ?_) (a' := ?_) #[true, true, true, true, true, true, true, true, true, true, true, true, true, true, true, true] rfl rfl (q0i HT_.out (by kernel_rfl)) (fun _ _ _ h => h) (Or.inl ⟨by rfl, ?_⟩) ?_ ?_
    rotate_left
    ·intro w'
     go_simp
     with_reducible rfl
    rotate_left
    ·simp only [Act.put, s1, s2, s3, q0d, q0e]
     rfl
    refine done_ (done_of HT_.out (by kernel_rfl)) ?_
    try go_wp2
    go_roundg k1
    case measure => have := HK1.out; omega
    case rel => exact ⟨(x8_1), (wrap64 (x9_1 + 1)), (by first | rfl | (simp; done) | simp [*]), (by first | rfl | (simp; done) | simp [*]), H', ⟨by have := HK1.out; omega⟩, ⟨by (with_reducible repeat (first | apply rA | apply rN | apply rD)); exact HO_7.out⟩, ⟨by (with_reducible repeat (first | refine kN ?_ _ | refine kD ?_ | refine kA ?_ _)); exact BK281.out⟩, ⟨by repeat (first | (with_reducible first | exact HB.out | apply bA | apply bN | apply bD | refine bS ?_ GE281.out) | exact HB.out)⟩⟩
   case n11 =>
    have H' := aS H
    clear H
    obtain ⟨Ao22, co22, eo22⟩ := Kd.R_slice HO_7.out
    subst eo22
    try go_wp2
    have n0_ := aS (Kd.R_drew HO_7.out)
    have n1_ := aS (q1e BK281.out)
    have n2_ := aS (q0s HB.out)
    clear HO_7
    clear BK281
    clear HB
    have HO_7 := n0_
    have BK281 := n1_
    have HB := n2_
    clear n0_ n1_ n2_
    obtain ⟨ad285, e285, hx285_0, p285, q285⟩ := atIA (Kd.R_reads' HO_7.out).2.2 x9_1 (by first | with_reducible assumption | assumption) (by first | with_reducible assumption | assumption)
    cases e285
    refine start_ (n := 16) (S := fun w' => w'.cell? ⟨gb281, 0, none⟩ = some (.slice A0_0 l0_0.length c0_0) ∧ w'.cell? ⟨gb281, 1, none⟩ = some (.bool a0_1) ∧ w'.cell? (ad285.add (x9_1).toNat) = some (.int .i64 (rd t282 x9_1))) (ds := []) #[false, false, false, false, false, false, false, false, false, false, false, false, false, false, false, false] (by kernel_rfl) rfl rfl ⟨(q05 BK281.out 0).trans rfl, (q05 BK281.out 1).trans rfl, hx285_0⟩ (fun hHeld => ?_); refine q1c clerestoryref1_WalkCommon.tab6 clerestoryref1_WalkCommon.bits6 (fun HT_ HW_ => ?_)
    generalize wr.drew = w23 at HO_7 BK281 HB hx285_0 hHeld ⊢
    refine q0o (i := 1) (N := some 19) (v := ?_) (a' := ?_) #[false, true, false, false, false, false, false, false, false, false, false, false, false, false, false, false] rfl rfl (q0i HT_.out (by kernel_rfl)) (fun _ _ _ h => h) (Or.inl ⟨by rfl, ?_⟩) ?_ ?_
    rotate_left
    ·intro w'
     go_simp
     with_reducible rfl
    rotate_left
    ·simp only [Act.put, s1, s2, s3, q0d, q0e]
     rfl
    refine q0o (i := 2) (N := some 20) (v := ?_) (a' := ?_) #[false, true, true, false, false, false, false, false, false, false, false, false, false, false, false, false] rfl rfl (q0i HT_.out (by kernel_rfl)) (fun _ _ _ h => h) (Or.inl ⟨by rfl, ?_⟩) ?_ ?_
    rotate_left
    ·intro w'
     go_simp
     with_reducible rfl
    rotate_left
    ·simp only [Act.put, s1, s2, s3, q0d, q0e]
     rfl
    refine q0o (i := 3) (N := some 21) (v := ?_) (a' := ?_) #[false, true, true, true, false, false, false, false, false, false, false, false, false, false, false, false] rfl rfl (q0i HT_.out (by kernel_rfl)) (fun _ _ _ h => h) (Or.inl ⟨by rfl, ?_⟩) ?_ ?_
    rotate_left
    ·intro w'
     go_simp
     with_reducible rfl
    rotate_left
    ·simp only [Act.put, s1, s2, s3, q0d, q0e]
     rfl
    refine q0o (i := 4) (N := some 22) (v := ?_) (a' := ?_) #[false, true, true, true, true, false, false, false, false, false, false, false, false, false, false, false] rfl rfl (q0i HT_.out (by kernel_rfl)) (fun _ _ _ h => h) (Or.inl ⟨by rfl, ?_⟩) ?_ ?_
    rotate_left
    ·intro w'
     go_simp
     with_reducible rfl
    rotate_left
    ·simp only [Act.put, s1, s2, s3, q0d, q0e]
     rfl
    refine take_ (i := 0) (N := some 18) (v := ?_) (a' := ?_) #[true, true, true, true, true, false, false, false, false, false, false, false, false, false, false, false] rfl rfl (q0r HT_.out HW_.out (by kernel_rfl)) (fun _ _ _ h => h) (Or.inl ⟨by rfl, ?_⟩) hHeld ?_ ?_
    rotate_left
    ·rintro w' ⟨s0, s1, s2⟩
     go_simp
     with_reducible rfl
    rotate_left
    ·simp only [Act.put, s1, s2, s3, q0d, q0e]
     rfl
    refine take_ (i := 5) (N := some 23) (v := ?_) (a' := ?_) #[true, true, true, true, true, true, false, false, false, false, false, false, false, false, false, false] rfl rfl (q0r HT_.out HW_.out (by kernel_rfl)) (fun _ _ _ h => h) (Or.inl ⟨by rfl, ?_⟩) hHeld ?_ ?_
    rotate_left
    ·rintro w' ⟨s0, s1, s2⟩
     go_simp
     with_reducible rfl
    rotate_left
    ·simp only [Act.put, s1, s2, s3, q0d, q0e]
     rfl
    refine one_ (i := 6) (N := some 24) #[true, true, true, true, true, true, true, false, false, false, false, false, false, false, false, false] rfl rfl (one_of HT_.out (by kernel_rfl)) (by decide) (fun K hK => ?_)
    refine goes_ Tryd.func26 (by kernel_rfl) rfl #[.agg #[.slice A0_0 l0_0.length c0_0, .bool a0_1], .int .i64 a1, .int .i64 (rd t282 x9_1)] (by rfl) rfl rfl (by (try simp only [List.map_toArray, List.map_cons, List.map_nil]); first | done | rfl | (simp only [List.length_drop, List.length_take]; rfl)) ?_
    with_reducible refine (clerestoryref1_Under.calls k1 _ _ l0_0 a0_1 a1 (rd t282 x9_1) false _ ?side1 ?side2 A10.out).mono ?_
    (case side1 => repeat (first | exact (Kd.C_below HR0_0.out HB.out) | (with_reducible refine cA ?_ _) | (with_reducible refine cN ?_ _) | (with_reducible refine cD ?_)))
    (case side2 => exact HC0_0.out)
    rintro e w24 ⟨rfl, hb⟩
    have HS2_ := (hb.cell (World.block_lt_of_cell? _ _ (hHeld.2.2))).trans (hHeld.2.2)
    refine ⟨_, rfl, ?_⟩
    have n0_ := aS (Kd.R_below (by (with_reducible repeat (first | apply rA | apply rN | apply rD)); exact HO_7.out) hb)
    have n1_ := aS (q08 (g := gb281) (o := .cells #[.slice A0_0 l0_0.length c0_0, .bool a0_1] 24 (0, 0)) (by (with_reducible repeat (first | refine kN ?_ _ | refine kD ?_ | refine kA ?_ _)); exact BK281.out) hb)
    have n2_ := aS (q03 (by repeat (first | (with_reducible first | exact HB.out | apply bA | apply bN | apply bD | refine bS ?_ GE281.out) | exact HB.out)) hb)
    clear HO_7
    clear BK281
    clear HB
    have HO_7 := n0_
    have BK281 := n1_
    have HB := n2_
    clear n0_ n1_ n2_
    (try clear hb)
    (try clear hb2)
    (try clear hk)
    (try clear hi)
    refine hK.out _ _ ⟨(q05 BK281.out 0).trans rfl, (q05 BK281.out 1).trans rfl, HS2_⟩ (fun hHeld => ?_)
    clear hK K
    refine norm_ (a' := ?_) ?_ ?_
    rotate_left
    ·show Act.put _ (some 24) _ = _
     simp only [Act.put, s1, s2, s3, q0d, q0e]
     rfl
    refine q0o (i := 7) (N := some 25) (v := ?_) (a' := ?_) #[true, true, true, true, true, true, true, true, false, false, false, false, false, false, false, false] rfl rfl (q0i HT_.out (by kernel_rfl)) (fun _ _ _ h => h) (Or.inl ⟨by rfl, ?_⟩) ?_ ?_
    rotate_left
    ·intro w'
     go_simp
     with_reducible rfl
    rotate_left
    ·simp only [Act.put, s1, s2, s3, q0d, q0e]
     rfl
    refine q0o (i := 8) (N := some 26) (v := undef) (a' := ?_) #[true, true, true, true, true, true, true, true, true, false, false, false, false, false, false, false] rfl rfl (q0i HT_.out (by kernel_rfl)) (fun _ _ _ h => h) (Or.inr ⟨by rfl, rfl⟩) ?_ ?_
    rotate_left
    ·simp only [Act.put, s1, s2, s3, q0d, q0e]
     rfl
    refine q0o (i := 9) (N := some 27) (v := undef) (a' := ?_) #[true, true, true, true, true, true, true, true, true, true, false, false, false, false, false, false] rfl rfl (q0i HT_.out (by kernel_rfl)) (fun _ _ _ h => h) (Or.inr ⟨by rfl, rfl⟩) ?_ ?_
    rotate_left
    ·simp only [Act.put, s1, s2, s3, q0d, q0e]
     rfl
    refine q0o (i := 10) (N := some 28) (v := undef) (a' := ?_) #[true, true, true, true, true, true, true, true, true, true, true, false, false, false, false, false] rfl rfl (q0i HT_.out (by kernel_rfl)) (fun _ _ _ h => h) (Or.inr ⟨by rfl, rfl⟩) ?_ ?_
    rotate_left
    ·simp only [Act.put, s1, s2, s3, q0d, q0e]
     rfl
    refine q0o (i := 11) (N := some 29) (v := undef) (a' := ?_) #[true, true, true, true, true, true, true, true, true, true, true, true, false, false, false, false] rfl rfl (q0i HT_.out (by kernel_rfl)) (fun _ _ _ h => h) (Or.inr ⟨by rfl, rfl⟩) ?_ ?_
    rotate_left
    ·simp only [Act.put, s1, s2, s3, q0d, q0e]
     rfl
    refine q0o (i := 12) (N := some 30) (v := undef) (a' := ?_) #[true, true, true, true, true, true, true, true, true, true, true, true, true, false, false, false] rfl rfl (q0i HT_.out (by kernel_rfl)) (fun _ _ _ h => h) (Or.inr ⟨by rfl, rfl⟩) ?_ ?_
    rotate_left
    ·simp only [Act.put, s1, s2, s3, q0d, q0e]
     rfl
    refine q0o (i := 13) (N := some 31) (v := undef) (a' := ?_) #[true, true, true, true, true, true, true, true, true, true, true, true, true, true, false, false] rfl rfl (q0i HT_.out (by kernel_rfl)) (fun _ _ _ h => h) (Or.inr ⟨by rfl, rfl⟩) ?_ ?_
    rotate_left
    ·simp only [Act.put, s1, s2, s3, q0d, q0e]
     rfl
    refine q0o (i := 14) (N := some 32) (v := undef) (a' := ?_) #[true, true, true, true, true, true, true, true, true, true, true, true, true, true, true, false] rfl rfl (q0i HT_.out (by kernel_rfl)) (fun _ _ _ h => h) (Or.inr ⟨by rfl, rfl⟩) ?_ ?_
    rotate_left
    ·simp only [Act.put, s1, s2, s3, q0d, q0e]
     rfl
    refine q0o (i := 15) (N := some 33) (v := ?_) (a' := ?_) #[true, true, true, true, true, true, true, true, true, true, true, true, true, true, true, true] rfl rfl (q0i HT_.out (by kernel_rfl)) (fun _ _ _ h => h) (Or.inl ⟨by rfl, ?_⟩) ?_ ?_
    rotate_left
    ·intro w'
     go_simp
     with_reducible rfl
    rotate_left
    ·simp only [Act.put, s1, s2, s3, q0d, q0e]
     rfl
    refine done_ (done_of HT_.out (by kernel_rfl)) ?_
    try go_wp2
    go_roundg k1
    case measure => have := HK1.out; omega
    case rel => exact ⟨(x8_1), (wrap64 (x9_1 + 1)), (by first | rfl | (simp; done) | simp [*]), (by first | rfl | (simp; done) | simp [*]), H', ⟨by have := HK1.out; omega⟩, ⟨by (with_reducible repeat (first | apply rA | apply rN | apply rD)); exact HO_7.out⟩, ⟨by (with_reducible repeat (first | refine kN ?_ _ | refine kD ?_ | refine kA ?_ _)); exact BK281.out⟩, ⟨by repeat (first | (with_reducible first | exact HB.out | apply bA | apply bN | apply bD | refine bS ?_ GE281.out) | exact HB.out)⟩⟩
   case n8 =>
    obtain rfl := Option.some.inj H
    obtain ⟨Ao25, co25, eo25⟩ := Kd.R_slice HO_7.out
    subst eo25
    go_wp2
    go_ret
    exact ⟨by first | rfl | (simp [q02, q01] <;> rfl) | (simp [*, q02, q01] <;> rfl), by repeat (first | (with_reducible first | exact HB.out | apply bA | apply bN | apply bD | refine bS ?_ GE281.out) | exact HB.out)⟩
end Go.Proofs.YthjnallbbhnndaaDoor.XWp
namespace Go.Proofs.YthjnallbbhnndaaDoor.XWp
open Go.Proofs.YthjnallbbhnndaaDoor.Short Go.RowKit Go.Proofs.YthjnallbbhnndaaDoorW.PrintWords Go.Proofs.YthjnallbbhnndaaDoorW.PrintLast Go.Proofs.YthjnallbbhnndaaDoorW.PrintMore
attribute [local go_sem] q15 q13 q1i q1h q0x q0w q14 q12   -- for this text's walks alone
set_option linter.unusedVariables false
set_option linter.unusedSimpArgs false
mutual
def clerestorylaw1_WalkPairs.j1 : Nat → Int → Bool → Int → Bool → Int → Int → Int → Int → Int → Int → Int → Bool → Bool → Int → Int → List (S43) → Bool → Option (Bool)
 | 0, _, _, _, _, _, _, _, _, _, _, _, _, _, _, _, _, _ => none
 | k + 1, x1, x7, x8, x9, x10, x11, x12, x13, x14, x15, x16, x17, x18, x19, x20, x291000, x291001 => if x16 = 0 then (clerestorylaw1_WalkPairs.j2 k x1 x7 x8 x9 x10 x11 x12 x13 x14 x15 x16 x17 x18 x19 x20 (decide (x1 > 0)) x291000 x291001) else (clerestorylaw1_WalkPairs.j2 k x1 x7 x8 x9 x10 x11 x12 x13 x14 x15 x16 x17 x18 x19 x20 false x291000 x291001)
def clerestorylaw1_WalkPairs.j2 : Nat → Int → Bool → Int → Bool → Int → Int → Int → Int → Int → Int → Int → Bool → Bool → Int → Int → Bool → List (S43) → Bool → Option (Bool)
 | 0, _, _, _, _, _, _, _, _, _, _, _, _, _, _, _, _, _, _ => none
 | k + 1, x1, x7, x8, x9, x10, x11, x12, x13, x14, x15, x16, x17, x18, x19, x20, x95, x291000, x291001 => if x95 = true then (if 0 ≤ x1 then (if x1 < (x291000.length : Int) then (if 0 ≤ ((q00 x291000 x1).f4) then (if ((q00 x291000 x1).f4) < (x291000.length : Int) then (clerestorylaw1_WalkPairs.l1 k x1 x7 x8 x9 x10 x11 x12 x13 x14 x15 x16 x17 x18 x19 x20 ((q00 x291000 ((q00 x291000 x1).f4)).f5) (((q00 x291000 ((q00 x291000 x1).f4)).f5).length : Int) 0) else (none)) else (none)) else (none)) else (none)) else ((clerestorylaw1_walkBegun.f k).bind fun t323 => (if t323 = true then (if (x7 == x17) = true then (if x8 = x15 then (if (x9 == x18) = true then (if x10 = x15 then (if x11 = x19 then (if x12 = x15 then (if x13 = x20 then (some (x14 == x16)) else (some false)) else (some false)) else (some false)) else (some false)) else (some false)) else (some false)) else (some false)) else (some false)))
def clerestorylaw1_WalkPairs.l1 : Nat → Int → Bool → Int → Bool → Int → Int → Int → Int → Int → Int → Int → Bool → Bool → Int → Int → List Int → Int → Int → Option (Bool)
 | 0, _, _, _, _, _, _, _, _, _, _, _, _, _, _, _, _, _, _ => none
 | k + 1, x1, x7, x8, x9, x10, x11, x12, x13, x14, x15, x16, x17, x18, x19, x20, x106, x107, x108 => if x108 < x107 then (if 0 ≤ x108 then (if x108 < (x106.length : Int) then (if (rd x106 x108) = x1 then (clerestorylaw1_WalkPairs.l1 k x1 x7 x8 x9 x10 x11 x12 x13 x14 x15 x16 x17 x18 x19 x108 x106 x107 (wrap64 (x108 + 1))) else (clerestorylaw1_WalkPairs.l1 k x1 x7 x8 x9 x10 x11 x12 x13 x14 x15 x16 x17 x18 x19 x20 x106 x107 (wrap64 (x108 + 1)))) else (none)) else (none)) else ((clerestorylaw1_walkBegun.f k).bind fun t322 => (if t322 = true then (if (x7 == x17) = true then (if x8 = x15 then (if (x9 == x18) = true then (if x10 = x15 then (if x11 = x19 then (if x12 = x15 then (if x13 = x20 then (some (x14 == x16)) else (some false)) else (some false)) else (some false)) else (some false)) else (some false)) else (some false)) else (some false)) else (some false)))
def clerestorylaw1_WalkPairs.l0 : Nat → Int → Int → Bool → Int → Bool → Int → Int → Int → Int → Int → Int → Int → Bool → Int → List Int → Int → Int → List (S43) → Bool → Option (Bool)
 | 0, _, _, _, _, _, _, _, _, _, _, _, _, _, _, _, _, _, _, _ => none
 | k + 1, x1, x2, x7, x8, x9, x10, x11, x12, x13, x14, x15, x16, x17, x20, x66, x67, x68, x291000, x291001 => if x68 < x67 then (if 0 ≤ x68 then (if x68 < (x66.length : Int) then (if (rd x66 x68) = x2 then ((clerestoryref1_Under.f k x291000 x291001 x1 x2).bind fun t315 => ((clerestoryref1_WalkCommon.f k x291000 x291001 x1 x2).bind fun t316 => (clerestorylaw1_WalkPairs.j1 k x1 x7 x8 x9 x10 x11 x12 x13 x14 x15 x16 x17 t315 t316 x20 x291000 x291001))) else (if x17 = true then (clerestorylaw1_WalkPairs.l0 k x1 x2 x7 x8 x9 x10 x11 x12 x13 x14 x15 x16 true x20 x66 x67 (wrap64 (x68 + 1)) x291000 x291001) else (clerestorylaw1_WalkPairs.l0 k x1 x2 x7 x8 x9 x10 x11 x12 x13 x14 x15 x16 ((rd x66 x68) == x1) x20 x66 x67 (wrap64 (x68 + 1)) x291000 x291001))) else (none)) else (none)) else ((clerestoryref1_Under.f k x291000 x291001 x1 x2).bind fun t317 => ((clerestoryref1_WalkCommon.f k x291000 x291001 x1 x2).bind fun t318 => (clerestorylaw1_WalkPairs.j1 k x1 x7 x8 x9 x10 x11 x12 x13 x14 x15 x16 x17 t317 t318 x20 x291000 x291001)))
end
def clerestorylaw1_WalkPairs.f (k : Nat) (l0_0 : List (S43)) (a0_1 : Bool) (a1 : Int) (a2 : Int) : Option (Bool) := (clerestorylaw1_few.f l0_0 a0_1 60).bind fun bt291 => ((walk_Before.f k bt291.1 bt291.2 a1 a2).bind fun bt295 => ((walk_Within.f k bt291.1 bt291.2 a1 a2).bind fun bt297 => ((walk_Common.f k bt291.1 bt291.2 a1 a2).bind fun bt299 => ((walk_Place.f k bt291.1 bt291.2 a1).bind fun bt301 => ((clerestoryref1_WalkErr.f k bt291.1 bt291.2 (([a1, a2] : List Int))).bind fun t306 => ((clerestoryref1_WalkErr.f k bt291.1 bt291.2 (([a1] : List Int))).bind fun t310 => (if t306 = 0 then ((clerestoryref1_Below.f k bt291.1 bt291.2 0).bind fun t311 => (clerestorylaw1_WalkPairs.l0 k a1 a2 bt295.1 bt295.2 bt297.1 bt297.2 bt299.1 bt299.2 bt301.1 bt301.2 t306 t310 false 0 t311 (t311.length : Int) 0 bt291.1 bt291.2)) else (clerestorylaw1_WalkPairs.j1 k a1 bt295.1 bt295.2 bt297.1 bt297.2 bt299.1 bt299.2 bt301.1 bt301.2 t306 t310 false false 0 0 bt291.1 bt291.2))))))))
theorem clerestorylaw1_WalkPairs.mono_l : ∀ k, (∀ y0 y1 y2 y3 y4 y5 y6 y7 y8 y9 y10 y11 y12 y13 y14 y15 y16, LeO (clerestorylaw1_WalkPairs.j1 k y0 y1 y2 y3 y4 y5 y6 y7 y8 y9 y10 y11 y12 y13 y14 y15 y16) (clerestorylaw1_WalkPairs.j1 (k + 1) y0 y1 y2 y3 y4 y5 y6 y7 y8 y9 y10 y11 y12 y13 y14 y15 y16)) ∧ (∀ y0 y1 y2 y3 y4 y5 y6 y7 y8 y9 y10 y11 y12 y13 y14 y15 y16 y17, LeO (clerestorylaw1_WalkPairs.j2 k y0 y1 y2 y3 y4 y5 y6 y7 y8 y9 y10 y11 y12 y13 y14 y15 y16 y17) (clerestorylaw1_WalkPairs.j2 (k + 1) y0 y1 y2 y3 y4 y5 y6 y7 y8 y9 y10 y11 y12 y13 y14 y15 y16 y17)) ∧ (∀ y0 y1 y2 y3 y4 y5 y6 y7 y8 y9 y10 y11 y12 y13 y14 y15 y16 y17, LeO (clerestorylaw1_WalkPairs.l1 k y0 y1 y2 y3 y4 y5 y6 y7 y8 y9 y10 y11 y12 y13 y14 y15 y16 y17) (clerestorylaw1_WalkPairs.l1 (k + 1) y0 y1 y2 y3 y4 y5 y6 y7 y8 y9 y10 y11 y12 y13 y14 y15 y16 y17)) ∧ (∀ y0 y1 y2 y3 y4 y5 y6 y7 y8 y9 y10 y11 y12 y13 y14 y15 y16 y17 y18, LeO (clerestorylaw1_WalkPairs.l0 k y0 y1 y2 y3 y4 y5 y6 y7 y8 y9 y10 y11 y12 y13 y14 y15 y16 y17 y18) (clerestorylaw1_WalkPairs.l0 (k + 1) y0 y1 y2 y3 y4 y5 y6 y7 y8 y9 y10 y11 y12 y13 y14 y15 y16 y17 y18))
 | 0 => ⟨fun _ _ _ _ _ _ _ _ _ _ _ _ _ _ _ _ _ r h => by simp [clerestorylaw1_WalkPairs.j1] at h, fun _ _ _ _ _ _ _ _ _ _ _ _ _ _ _ _ _ _ r h => by simp [clerestorylaw1_WalkPairs.j2] at h, fun _ _ _ _ _ _ _ _ _ _ _ _ _ _ _ _ _ _ r h => by simp [clerestorylaw1_WalkPairs.l1] at h, fun _ _ _ _ _ _ _ _ _ _ _ _ _ _ _ _ _ _ _ r h => by simp [clerestorylaw1_WalkPairs.l0] at h⟩
 | k + 1 => by
  obtain ⟨ih0, ih1, ih2, ih3⟩ := clerestorylaw1_WalkPairs.mono_l k
  refine ⟨?_, ?_, ?_, ?_⟩
  all_goals intros
  all_goals (first | unfold clerestorylaw1_WalkPairs.j1 | unfold clerestorylaw1_WalkPairs.j2 | unfold clerestorylaw1_WalkPairs.l1 | unfold clerestorylaw1_WalkPairs.l0)
  all_goals (repeat' first | with_reducible first | apply ih0 | apply ih1 | apply ih2 | apply ih3 | apply clerestorylaw1_walkBegun.mono | apply clerestoryref1_Below.mono | apply clerestoryref1_Under.mono | apply clerestoryref1_WalkCommon.mono | apply clerestoryref1_WalkErr.mono | apply walk_Before.mono | apply walk_Common.mono | apply walk_Place.mono | apply walk_Within.mono | exact LeO.refl _ | exact LeO.none _ | refine LeO.ite ?_ ?_ | refine LeO.bind ?_ (fun _ => ?_) | (first | apply ih0 | apply ih1 | apply ih2 | apply ih3 | apply clerestorylaw1_walkBegun.mono | apply clerestoryref1_Below.mono | apply clerestoryref1_Under.mono | apply clerestoryref1_WalkCommon.mono | apply clerestoryref1_WalkErr.mono | apply walk_Before.mono | apply walk_Common.mono | apply walk_Place.mono | apply walk_Within.mono | exact LeO.none _ | refine LeO.ite ?_ ?_ | refine LeO.bind ?_ (fun _ => ?_)))
theorem clerestorylaw1_WalkPairs.mono : ∀ a0 a1 a2 a3 k, LeO (clerestorylaw1_WalkPairs.f k a0 a1 a2 a3) (clerestorylaw1_WalkPairs.f (k + 1) a0 a1 a2 a3) := by
 intro a0 a1 a2 a3 k
 obtain ⟨ih0, ih1, ih2, ih3⟩ := clerestorylaw1_WalkPairs.mono_l k
 unfold clerestorylaw1_WalkPairs.f
 repeat' first | with_reducible first | apply ih0 | apply ih1 | apply ih2 | apply ih3 | apply clerestorylaw1_walkBegun.mono | apply clerestoryref1_Below.mono | apply clerestoryref1_Under.mono | apply clerestoryref1_WalkCommon.mono | apply clerestoryref1_WalkErr.mono | apply walk_Before.mono | apply walk_Common.mono | apply walk_Place.mono | apply walk_Within.mono | exact LeO.refl _ | exact LeO.none _ | refine LeO.ite ?_ ?_ | refine LeO.bind ?_ (fun _ => ?_) | (first | apply ih0 | apply ih1 | apply ih2 | apply ih3 | apply clerestorylaw1_walkBegun.mono | apply clerestoryref1_Below.mono | apply clerestoryref1_Under.mono | apply clerestoryref1_WalkCommon.mono | apply clerestoryref1_WalkErr.mono | apply walk_Before.mono | apply walk_Common.mono | apply walk_Place.mono | apply walk_Within.mono | exact LeO.none _ | refine LeO.ite ?_ ?_ | refine LeO.bind ?_ (fun _ => ?_))
def clerestorylaw1_WalkPairs.T6 : Bool × List (List Nat × List Nat) := (true, [([], []), ([], []), ([], []), ([1, 2], [1, 2]), ([0, 3], [0, 3]), ([], []), ([], []), ([6], [6]), ([5, 7, 4], [5, 7]), ([4, 8, 0, 1, 2, 3, 4], [4]), ([8, 9, 0, 1, 2, 3, 4, 5, 6, 7, 8, 9], [8])])
def clerestorylaw1_WalkPairs.B6 : List Nat := [0, 0, 0, 6, 15, 0, 0, 64, 255, 511, 1023]
theorem clerestorylaw1_WalkPairs.tab6 : rtab .any (opsOf Tryd.f4 6) = clerestorylaw1_WalkPairs.T6 := by kernel_rfl
theorem clerestorylaw1_WalkPairs.bits6 : q1l clerestorylaw1_WalkPairs.T6.2 clerestorylaw1_WalkPairs.B6 = true := by kernel_rfl
def clerestorylaw1_WalkPairs.T15 : Bool × List (List Nat × List Nat) := (true, [([], []), ([], []), ([], []), ([0, 1, 2], [0, 1, 2]), ([], []), ([], []), ([], []), ([4, 5, 6, 3], [4, 5, 6]), ([3, 7, 0, 1, 2, 3], [3]), ([7, 8, 0, 1, 2, 3, 4, 5, 6, 7, 8], [7])])
def clerestorylaw1_WalkPairs.B15 : List Nat := [0, 0, 0, 7, 0, 0, 0, 127, 255, 511]
theorem clerestorylaw1_WalkPairs.tab15 : rtab .any (opsOf Tryd.f4 15) = clerestorylaw1_WalkPairs.T15 := by kernel_rfl
theorem clerestorylaw1_WalkPairs.bits15 : q1l clerestorylaw1_WalkPairs.T15.2 clerestorylaw1_WalkPairs.B15 = true := by kernel_rfl
def clerestorylaw1_WalkPairs.T17 : Bool × List (List Nat × List Nat) := (true, [([], []), ([0], [0]), ([], []), ([2], [2]), ([], []), ([3, 4], [3, 4]), ([5], [5]), ([6], [6]), ([1, 7], [1, 7]), ([8], [8]), ([9], [9]), ([10], [10]), ([], [])])
def clerestorylaw1_WalkPairs.B17 : List Nat := [0, 1, 0, 4, 0, 28, 60, 124, 255, 511, 1023, 2047, 0]
theorem clerestorylaw1_WalkPairs.tab17 : rtab .any (opsOf Tryd.f4 17) = clerestorylaw1_WalkPairs.T17 := by kernel_rfl
theorem clerestorylaw1_WalkPairs.bits17 : q1l clerestorylaw1_WalkPairs.T17.2 clerestorylaw1_WalkPairs.B17 = true := by kernel_rfl
set_option maxHeartbeats 8000000 in
set_option maxRecDepth 100000 in
theorem clerestorylaw1_WalkPairs.calls (k : Nat) (A0_0 : Option Addr) (c0_0 : Nat) (l0_0 : List (S43)) (a0_1 : Bool) (a1 : Int) (a2 : Int) (r : Bool) (w : World) (hr0_0 : Kd.C k43 w A0_0 l0_0.length l0_0) (hc0_0 : l0_0.length ≤ c0_0) (h : clerestorylaw1_WalkPairs.f k l0_0 a0_1 a1 a2 = some r) :
 Calls Tryd.prog 4 #[.agg #[.slice A0_0 l0_0.length c0_0, .bool a0_1], .int .i64 a1, .int .i64 a2] w fun e w' => e = .returned (.bool r) ∧ Below w.heap.size w w' := by
 have hu24 := Tryd.underlying24
 have HR0_0 := aS hr0_0
 have HC0_0 := aS hc0_0
 clear hr0_0 hc0_0
 have HB := aS (Below.refl w.heap.size w)
 have H := h; clear h; unfold clerestorylaw1_WalkPairs.f at H
 replace H := iB H
 obtain ⟨⟨t291, t294⟩, A4, H⟩ := H
 try dsimp only at H
 replace H := iB H
 obtain ⟨⟨t295, t296⟩, A5, H⟩ := H
 try dsimp only at H
 replace H := iB H
 obtain ⟨⟨t297, t298⟩, A6, H⟩ := H
 try dsimp only at H
 replace H := iB H
 obtain ⟨⟨t299, t300⟩, A7, H⟩ := H
 try dsimp only at H
 replace H := iB H
 obtain ⟨⟨t301, t302⟩, A8, H⟩ := H
 try dsimp only at H
 obtain ⟨y303, hy303⟩ : ∃ y_ : List Int, y_ = (([a1, a2] : List Int)) := ⟨_, rfl⟩
 replace H : ((clerestoryref1_WalkErr.f k t291 t294 y303).bind fun t306 => ((clerestoryref1_WalkErr.f k t291 t294 (([a1] : List Int))).bind fun t310 => (if t306 = 0 then ((clerestoryref1_Below.f k t291 t294 0).bind fun t311 => (clerestorylaw1_WalkPairs.l0 k a1 a2 t295 t296 t297 t298 t299 t300 t301 t302 t306 t310 false 0 t311 (t311.length : Int) 0 t291 t294)) else (clerestorylaw1_WalkPairs.j1 k a1 t295 t296 t297 t298 t299 t300 t301 t302 t306 t310 false false 0 0 t291 t294)))) = some r := by first | (rw [hy303]; with_reducible exact H) | (have H2_ := (Option.bind_some _ _).symm.trans H; rw [hy303]; with_reducible exact H2_) | (have H2_ := (Option.bind_some _ _).symm.trans H; with_reducible exact H2_) | with_reducible exact H | (rw [hy303]; exact H) | exact H
 have Ny303 := aS hy303
 clear hy303
 replace H := iB H
 obtain ⟨t306, A9, H⟩ := H
 obtain ⟨y307, hy307⟩ : ∃ y_ : List Int, y_ = (([a1] : List Int)) := ⟨_, rfl⟩
 replace H : ((clerestoryref1_WalkErr.f k t291 t294 y307).bind fun t310 => (if t306 = 0 then ((clerestoryref1_Below.f k t291 t294 0).bind fun t311 => (clerestorylaw1_WalkPairs.l0 k a1 a2 t295 t296 t297 t298 t299 t300 t301 t302 t306 t310 false 0 t311 (t311.length : Int) 0 t291 t294)) else (clerestorylaw1_WalkPairs.j1 k a1 t295 t296 t297 t298 t299 t300 t301 t302 t306 t310 false false 0 0 t291 t294))) = some r := by first | (rw [hy307]; with_reducible exact H) | (have H2_ := (Option.bind_some _ _).symm.trans H; rw [hy307]; with_reducible exact H2_) | (have H2_ := (Option.bind_some _ _).symm.trans H; with_reducible exact H2_) | with_reducible exact H | (rw [hy307]; exact H) | exact H
 have Ny307 := aS hy307
 clear hy307
 replace H := iB H
 obtain ⟨t310, A10, H⟩ := H
 have HC11 := aS H
 clear H
 go_enter Tryd.func4, Tryd.ntmps4
 try go_wp2_with (first | ((with_reducible refine q0c (N := 3) rfl ?_); refine box0 rfl (N := 3) rfl (cs := #[.slice A0_0 l0_0.length c0_0, .bool a0_1]) (t := 24) (by first | (go_simp; done) | (go_simp; rfl)) (by repeat (first | (with_reducible first | exact HB.out | apply bA | apply bN | apply bD) | exact HB.out)) ?_; clear HB; intro gb290 w12 BK290 GW290 HB; have GE290 := GW290; obtain ⟨hcz13_0, hcz13_1, hfz13_0, hfz13_1⟩ := bk2 BK290.out) | ((with_reducible refine q06 (f := 15) rfl ?_); refine q0k (some 26) rfl rfl Tryd.func15 (by kernel_rfl) rfl #[.agg #[.slice A0_0 l0_0.length c0_0, .bool a0_1], .int .i64 60] rfl (by (try simp only [List.map_toArray, List.map_cons, List.map_nil]); first | done | rfl | (simp only [List.length_drop, List.length_take]; rfl)) ?_; (with_reducible refine (clerestorylaw1_few.calls (fun k_ => k_ < w.heap.size) _ _ l0_0 a0_1 60 t291 t294 _ ?side1 A4.out).mono ?_); (case side1 => exact Kd.V_mk HC0_0.out (Kd.F_below (Kd.C_F k43_heap HR0_0.out) (by repeat (first | (with_reducible first | exact HB.out | apply bA | apply bN | apply bD | refine bS ?_ GE290.out) | exact HB.out)))); rintro e w14 ⟨v292, rfl, ho0, hb⟩; refine ⟨_, rfl, ?_⟩; have HO293 := aS (Kd.V_lower (Kd.V_mono (ok' := fun k_ => k_ ≠ gb290) ho0 (fun k_ hk_ => Or.elim hk_ (fun hs_ => fun e_ => Nat.not_le.2 hs_ (by rw [e_]; exact GW290.out)) (fun hn_ => (Kd.freshB (g := gb290) (o := .cells #[.slice A0_0 l0_0.length c0_0, .bool a0_1] 24 (0, 0)) (by (with_reducible repeat (first | refine kN ?_ _ | refine kD ?_ | refine kA ?_ _)); exact BK290.out) k_ hn_)))) (q0g (by repeat (first | (with_reducible first | exact HB.out | apply bA | apply bN | apply bD | refine bS ?_ GE290.out) | exact HB.out)))); replace BK290 := aS (q08 (g := gb290) (o := .cells #[.slice A0_0 l0_0.length c0_0, .bool a0_1] 24 (0, 0)) (by (with_reducible repeat (first | refine kN ?_ _ | refine kD ?_ | refine kA ?_ _)); exact BK290.out) hb); replace HB := aS (q03 (by repeat (first | (with_reducible first | exact HB.out | apply bA | apply bN | apply bD | refine bS ?_ GE290.out) | exact HB.out)) hb); (try clear hb); (try clear hb2); (try clear hk); (try clear hi); (try clear ho0); obtain ⟨Ao15, co15, eo15⟩ := Kd.V_slice HO293.out; subst eo15; obtain ⟨hcz16_0, hcz16_1, hfz16_0, hfz16_1⟩ := bk2 BK290.out) | ((with_reducible refine q06 (f := 21) rfl ?_); refine q0k (some 31) rfl rfl Tryd.func21 (by kernel_rfl) rfl #[.agg #[.slice Ao15 t291.length co15, .bool t294], .int .i64 a1, .int .i64 a2] rfl (by (try simp only [List.map_toArray, List.map_cons, List.map_nil]); first | done | rfl | (simp only [List.length_drop, List.length_take]; rfl)) ?_; (with_reducible refine (walk_Before.calls k _ _ t291 t294 a1 a2 t295 t296 _ ?side1 ?side2 A5.out).mono ?_); (case side1 => refine (Kd.V_reads' (e := 43) (base := w.heap.size) (ok := fun k_ => k_ ≠ gb290) (n := t291.length) (c := co15) ?_).2.2; exact (by (with_reducible repeat (first | apply vA | apply vN | apply vD)); exact (Kd.V_mono (Kd.V_far (p := ⟨gb290, 1, none⟩) (Kd.V_far (p := ⟨gb290, 0, none⟩) (Kd.V_mono HO293.out (fun k_ hk => (⟨hk, hk⟩ : _ ∧ k_ ≠ gb290))) (fun _ hk => hk.2) (.slice Ao15 t291.length co15)) (fun _ hk => hk.2) (.bool t294)) (fun _ h_ => h_.1)))); (case side2 => exact (Kd.V_reads' HO293.out).2.1); rintro e w17 ⟨rfl, hb⟩; refine ⟨_, rfl, ?_⟩; replace HO293 := aS (Kd.V_below (by (with_reducible repeat (first | apply vA | apply vN | apply vD)); exact (Kd.V_mono (Kd.V_far (p := ⟨gb290, 1, none⟩) (Kd.V_far (p := ⟨gb290, 0, none⟩) (Kd.V_mono HO293.out (fun k_ hk => (⟨hk, hk⟩ : _ ∧ k_ ≠ gb290))) (fun _ hk => hk.2) (.slice Ao15 t291.length co15)) (fun _ hk => hk.2) (.bool t294)) (fun _ h_ => h_.1))) hb); replace BK290 := aS (q08 (g := gb290) (o := .cells #[.slice Ao15 t291.length co15, .bool t294] 24 (0, 0)) (by (with_reducible repeat (first | refine kN ?_ _ | refine kD ?_ | refine kA ?_ _)); refine q0t (cs := #[.slice Ao15 t291.length co15, .bool a0_1]) ?_ 1 _ rfl; (with_reducible repeat (first | refine kN ?_ _ | refine kD ?_ | refine kA ?_ _)); refine q0t (cs := #[.slice A0_0 l0_0.length c0_0, .bool a0_1]) ?_ 0 _ rfl; (with_reducible repeat (first | refine kN ?_ _ | refine kD ?_ | refine kA ?_ _)); exact BK290.out) hb); replace HB := aS (q03 (by repeat (first | (with_reducible first | exact HB.out | apply bA | apply bN | apply bD | refine bS ?_ GE290.out) | exact HB.out)) hb); (try clear hb); (try clear hb2); (try clear hk); (try clear hi); obtain ⟨hcz18_0, hcz18_1, hfz18_0, hfz18_1⟩ := bk2 BK290.out) | ((with_reducible refine q06 (f := 22) rfl ?_); refine q0k (some 38) rfl rfl Tryd.func22 (by kernel_rfl) rfl #[.agg #[.slice Ao15 t291.length co15, .bool t294], .int .i64 a1, .int .i64 a2] rfl (by (try simp only [List.map_toArray, List.map_cons, List.map_nil]); first | done | rfl | (simp only [List.length_drop, List.length_take]; rfl)) ?_; (with_reducible refine (walk_Within.calls k _ _ t291 t294 a1 a2 t297 t298 _ ?side1 ?side2 A6.out).mono ?_); (case side1 => repeat (first | exact (Kd.V_reads' HO293.out).2.2 | (with_reducible refine cA ?_ _) | (with_reducible refine cN ?_ _) | (with_reducible refine cD ?_))); (case side2 => exact (Kd.V_reads' HO293.out).2.1); rintro e w19 ⟨rfl, hb⟩; refine ⟨_, rfl, ?_⟩; replace HO293 := aS (Kd.V_below (by (with_reducible repeat (first | apply vA | apply vN | apply vD)); exact HO293.out) hb); replace BK290 := aS (q08 (g := gb290) (o := .cells #[.slice Ao15 t291.length co15, .bool t294] 24 (0, 0)) (by (with_reducible repeat (first | refine kN ?_ _ | refine kD ?_ | refine kA ?_ _)); exact BK290.out) hb); replace HB := aS (q03 (by repeat (first | (with_reducible first | exact HB.out | apply bA | apply bN | apply bD | refine bS ?_ GE290.out) | exact HB.out)) hb); (try clear hb); (try clear hb2); (try clear hk); (try clear hi); obtain ⟨hcz20_0, hcz20_1, hfz20_0, hfz20_1⟩ := bk2 BK290.out) | ((with_reducible refine q06 (f := 23) rfl ?_); refine q0k (some 45) rfl rfl Tryd.func23 (by kernel_rfl) rfl #[.agg #[.slice Ao15 t291.length co15, .bool t294], .int .i64 a1, .int .i64 a2] rfl (by (try simp only [List.map_toArray, List.map_cons, List.map_nil]); first | done | rfl | (simp only [List.length_drop, List.length_take]; rfl)) ?_; (with_reducible refine (walk_Common.calls k _ _ t291 t294 a1 a2 t299 t300 _ ?side1 ?side2 A7.out).mono ?_); (case side1 => repeat (first | exact (Kd.V_reads' HO293.out).2.2 | (with_reducible refine cA ?_ _) | (with_reducible refine cN ?_ _) | (with_reducible refine cD ?_))); (case side2 => exact (Kd.V_reads' HO293.out).2.1); rintro e w21 ⟨rfl, hb⟩; refine ⟨_, rfl, ?_⟩; replace HO293 := aS (Kd.V_below (by (with_reducible repeat (first | apply vA | apply vN | apply vD)); exact HO293.out) hb); replace BK290 := aS (q08 (g := gb290) (o := .cells #[.slice Ao15 t291.length co15, .bool t294] 24 (0, 0)) (by (with_reducible repeat (first | refine kN ?_ _ | refine kD ?_ | refine kA ?_ _)); exact BK290.out) hb); replace HB := aS (q03 (by repeat (first | (with_reducible first | exact HB.out | apply bA | apply bN | apply bD | refine bS ?_ GE290.out) | exact HB.out)) hb); (try clear hb); (try clear hb2); (try clear hk); (try clear hi); obtain ⟨hcz22_0, hcz22_1, hfz22_0, hfz22_1⟩ := bk2 BK290.out) | ((with_reducible refine q06 (f := 24) rfl ?_); refine q0k (some 51) rfl rfl Tryd.func24 (by kernel_rfl) rfl #[.agg #[.slice Ao15 t291.length co15, .bool t294], .int .i64 a1] rfl (by (try simp only [List.map_toArray, List.map_cons, List.map_nil]); first | done | rfl | (simp only [List.length_drop, List.length_take]; rfl)) ?_; (with_reducible refine (walk_Place.calls k _ _ t291 t294 a1 t301 t302 _ ?side1 ?side2 A8.out).mono ?_); (case side1 => repeat (first | exact (Kd.V_reads' HO293.out).2.2 | (with_reducible refine cA ?_ _) | (with_reducible refine cN ?_ _) | (with_reducible refine cD ?_))); (case side2 => exact (Kd.V_reads' HO293.out).2.1); rintro e w23 ⟨rfl, hb⟩; refine ⟨_, rfl, ?_⟩; replace HO293 := aS (Kd.V_below (by (with_reducible repeat (first | apply vA | apply vN | apply vD)); exact HO293.out) hb); replace BK290 := aS (q08 (g := gb290) (o := .cells #[.slice Ao15 t291.length co15, .bool t294] 24 (0, 0)) (by (with_reducible repeat (first | refine kN ?_ _ | refine kD ?_ | refine kA ?_ _)); exact BK290.out) hb); replace HB := aS (q03 (by repeat (first | (with_reducible first | exact HB.out | apply bA | apply bN | apply bD | refine bS ?_ GE290.out) | exact HB.out)) hb); (try clear hb); (try clear hb2); (try clear hk); (try clear hi)))
 have n0_ := aS (Kd.V_drew HO293.out)
 have n1_ := aS (q1e BK290.out)
 have n2_ := aS (q0s HB.out)
 clear HO293
 clear BK290
 clear HB
 have HO293 := n0_
 have BK290 := n1_
 have HB := n2_
 clear n0_ n1_ n2_
 refine start_ (n := 11) (S := fun w' => True) (ds := []) #[false, false, false, false, false, false, false, false, false, false, false] (by kernel_rfl) rfl rfl trivial (fun hHeld => ?_); refine q1c clerestorylaw1_WalkPairs.tab6 clerestorylaw1_WalkPairs.bits6 (fun HT_ HW_ => ?_)
 generalize w23.drew = w24 at HO293 BK290 HB hHeld ⊢
 refine q0o (i := 1) (N := some 55) (v := ?_) (a' := ?_) #[false, true, false, false, false, false, false, false, false, false, false] rfl rfl (q0i HT_.out (by kernel_rfl)) (fun _ _ _ h => h) (Or.inl ⟨by rfl, ?_⟩) ?_ ?_
 rotate_left
 ·intro w'
  go_simp
  with_reducible rfl
 rotate_left
 ·simp only [Act.put, s1, s2, s3, q0d, q0e]
  rfl
 refine q0o (i := 2) (N := some 56) (v := ?_) (a' := ?_) #[false, true, true, false, false, false, false, false, false, false, false] rfl rfl (q0i HT_.out (by kernel_rfl)) (fun _ _ _ h => h) (Or.inl ⟨by rfl, ?_⟩) ?_ ?_
 rotate_left
 ·intro w'
  go_simp
  with_reducible rfl
 rotate_left
 ·simp only [Act.put, s1, s2, s3, q0d, q0e]
  rfl
 refine q0o (i := 6) (N := some 60) (v := ?_) (a' := ?_) #[false, true, true, false, false, false, true, false, false, false, false] rfl rfl (q0i HT_.out (by kernel_rfl)) (fun _ _ _ h => h) (Or.inl ⟨by rfl, ?_⟩) ?_ ?_
 rotate_left
 ·intro w'
  go_simp
  with_reducible rfl
 rotate_left
 ·simp only [Act.put, s1, s2, s3, q0d, q0e]
  rfl
 refine inv_at [0, 3, 4, 5, 7, 8, 9, 10] (fun a0_ b a w' => ∃ (v304 : Value) (v308 : Value), a = q1n a0_ b [(0, 54, .agg #[.slice Ao15 t291.length co15, .bool t294]), (3, 57, v304), (4, 58, .int .i64 t306), (5, 59, .agg #[.slice Ao15 t291.length co15, .bool t294]), (7, 61, v308), (8, 62, .int .i64 t310), (9, 15, .int .i64 t306), (10, 16, .int .i64 t310)] ∧ (Kd.V k43 43 w' w.heap.size (fun k_ => k_ ≠ gb290) (.slice Ao15 t291.length co15) t291) ∧ (w'.heap[gb290]? = some (.cells #[.slice Ao15 t291.length co15, .bool t294] 24 (0, 0))) ∧ (Below w.heap.size w w') ∧ (b 3 = true → Kd.R (Kd.int .i64) 3 w' w.heap.size (fun _ => True) v304 y303) ∧ (b 7 = true → Kd.R (Kd.int .i64) 3 w' w.heap.size (fun _ => True) v308 y307)) HT_.out HW_.out (by kernel_rfl) (by kernel_rfl) ?_ ?_ ?_
 ·exact ⟨.bool false, .bool false, by simp only [q1n, Bool.false_eq_true, if_false], HO293.out, BK290.out, HB.out, fun h_ => absurd h_ (by decide), fun h_ => absurd h_ (by decide)⟩
 ·skip
  clear BK290 HB HO293
  refine q1t ?_ ?_
  ·rintro b a w' ⟨v304, v308, ha, Q_HO293, Q_BK290, Q_HB, Q_HO305, Q_HO309⟩ hb_ hon hoff
   refine ⟨_, rfl, fun K hK => ?_⟩
   have e3 : a.tmps[3]? = some (.pointer (some ⟨gb290, 0, none⟩)) := by rw [ha]; exact (q1w rfl).trans rfl
   replace ha := aS ha
   have HO293 := aS Q_HO293
   have BK290 := aS Q_BK290
   have HB := aS Q_HB
   have hc0_ : w'.cell? ⟨gb290, 0, none⟩ = some (.slice Ao15 t291.length co15) := (q05 BK290.out 0).trans rfl
   have hc1_ : w'.cell? ⟨gb290, 1, none⟩ = some (.bool t294) := (q05 BK290.out 1).trans rfl
   refine value_ (w1 := w') (v := .agg #[.slice Ao15 t291.length co15, .bool t294]) (by rfl) rfl ?_ ?_
   ·go_simp
    (try simp only [q0d])
    try rfl
   refine hK.out _ _ ⟨v304, v308, (by rw [ha.out]; exact q1v 0 hb_ rfl rfl rfl), Q_HO293, Q_BK290, Q_HB, Q_HO305, Q_HO309⟩
  refine q1t ?_ ?_
  ·rintro b a w' ⟨v304, v308, ha, Q_HO293, Q_BK290, Q_HB, Q_HO305, Q_HO309⟩ hb_ hon hoff
   refine ⟨_, rfl, fun K hK => ?_⟩
   have e55 : a.tmps[55]? = some (.int .i64 a1) := by rw [ha]; exact (q1w rfl).trans rfl
   have e56 : a.tmps[56]? = some (.int .i64 a2) := by rw [ha]; exact (q1w rfl).trans rfl
   replace ha := aS ha
   have HO293 := aS Q_HO293
   have BK290 := aS Q_BK290
   have HB := aS Q_HB
   refine Kd.R_lit_step (Kd.int .i64) _ 3 ?hg (N := 57) ?hd (xs := ([a1, a2] : List Int)) (inner := [.int .i64 a1, .int .i64 a2]) (ok := fun _ => True) (okp := fun _ => True) ?hr ?hp (fun _ hk => hk) trivial (Below.refl _ _) (Nat.le_refl _) (by simp) ?_; (case hd => rfl); (case hg => rfl); (case hr => first | (go_simp; done) | (go_simp; rfl)); (case hp => exact (Reps.one (show Kd.M (Kd.int .i64) _ _ _ a1 [.int .i64 a1] from rfl) (Reps.one (show Kd.M (Kd.int .i64) _ _ _ a2 [.int .i64 a2] from rfl) (Reps.none _ _))))
   intro v304 w25 ho26 hb hg_ hnew_
   clear hg_ hnew_
   (first | rw [← Ny303.out] at ho26 | (simp only [Int.reduceToNat] at ho26; rw [← Ny303.out] at ho26))
   have n0_ := aS (Kd.V_elder' (by (with_reducible repeat (first | apply vA | apply vN | apply vD)); exact HO293.out) (Kd.R_base ho26) hb)
   have n1_ := aS (Kd.R_lower ho26 (q0g (by repeat (first | (with_reducible first | exact HB.out | apply bA | apply bN | apply bD | refine bS ?_ GE290.out) | exact HB.out))))
   have n2_ := aS (q08 (g := gb290) (o := .cells #[.slice Ao15 t291.length co15, .bool t294] 24 (0, 0)) (by (with_reducible repeat (first | refine kN ?_ _ | refine kD ?_ | refine kA ?_ _)); exact BK290.out) hb)
   have n3_ := aS (q03 (by repeat (first | (with_reducible first | exact HB.out | apply bA | apply bN | apply bD | refine bS ?_ GE290.out) | exact HB.out)) hb)
   have z_HO309 := fun (h0_ : b 7 = true) => (show Kd.R (Kd.int .i64) 3 w25 w.heap.size (fun _ => True) v308 y307 from by first | exact (Kd.R_elder' (by (with_reducible repeat (first | apply rA | apply rN | apply rD)); exact (Q_HO309 h0_)) (Kd.R_base ho26) hb) | exact Kd.R_mono (Kd.R_elder' (by (with_reducible repeat (first | apply rA | apply rN | apply rD)); exact (Q_HO309 h0_)) (Kd.R_base ho26) hb) (fun _ h_ => by first | trivial | exact h_ | exact h_.1))
   clear HO293
   clear BK290
   clear HB
   have HO293 := n0_
   have HO305 := n1_
   have BK290 := n2_
   have HB := n3_
   clear n0_ n1_ n2_ n3_
   clear hb ho26
   refine hK.out _ _ ⟨v304, v308, (by rw [ha.out]; exact q1v 1 hb_ rfl rfl rfl), (by (with_reducible repeat (first | apply vA | apply vN | apply vD)); exact Kd.V_mono HO293.out (fun _ hk => by first | exact ⟨hk.2, hk.1⟩ | exact hk | exact ⟨hk.2, hk.1⟩ | exact hk.1 | exact hk.2)), (by (with_reducible repeat (first | refine kN ?_ _ | refine kD ?_ | refine kA ?_ _)); exact BK290.out), (by repeat (first | (with_reducible first | exact HB.out | apply bA | apply bN | apply bD | refine bS ?_ GE290.out) | exact HB.out)), fun _ => (by (with_reducible repeat (first | apply rA | apply rN | apply rD)); exact HO305.out), z_HO309⟩
  refine q1t ?_ ?_
  ·rintro b a w' ⟨v304, v308, ha, Q_HO293, Q_BK290, Q_HB, Q_HO305, Q_HO309⟩ hb_ hon hoff
   refine ⟨_, rfl, fun K hK => ?_⟩
   have e54 : a.tmps[54]? = some (.agg #[.slice Ao15 t291.length co15, .bool t294]) := by rw [ha]; exact putSel_on (e := (0, 54, .agg #[.slice Ao15 t291.length co15, .bool t294])) 0 rfl rfl (hon 0 (by kernel_rfl)) rfl
   have e57 : a.tmps[57]? = some (v304) := by rw [ha]; exact putSel_on (e := (3, 57, v304)) 1 rfl rfl (hon 3 (by kernel_rfl)) rfl
   replace ha := aS ha
   have HO293 := aS Q_HO293
   have BK290 := aS Q_BK290
   have HB := aS Q_HB
   have HO305 := aS (Q_HO305 (hon 3 (by kernel_rfl)))
   obtain ⟨Ao28, co28, eo28⟩ := Kd.R_slice HO305.out
   (first | subst eo28 | (injection eo28 with f1_ f2_ f3_; have f4_ := f1_.symm; have f5_ := f3_.symm; clear f1_ f2_ f3_; subst f4_; subst f5_))
   refine goes_ Tryd.func18 (by kernel_rfl) rfl #[.agg #[.slice Ao15 t291.length co15, .bool t294], .slice Ao28 y303.length co28] (by rfl) rfl rfl (by first | (simp only [List.map_toArray, List.map_cons, List.map_nil, Act.eval, Array.getD_eq_getD_getElem?, Option.getD_some, e54, e57]; done) | (simp only [List.map_toArray, List.map_cons, List.map_nil, Act.eval, Array.getD_eq_getD_getElem?, Option.getD_some, e54, e57]; rfl)) ?_
   with_reducible refine (clerestoryref1_WalkErr.calls k _ _ t291 t294 _ _ y303 t306 _ ?side1 ?side2 ?side3 ?side4 A9.out).mono ?_
   (case side1 => repeat (first | exact (Kd.V_reads' HO293.out).2.2 | (with_reducible refine cA ?_ _) | (with_reducible refine cN ?_ _) | (with_reducible refine cD ?_)))
   (case side2 => exact (Kd.V_reads' HO293.out).2.1)
   (case side3 => repeat (first | exact (Kd.R_reads' HO305.out).2.2 | (with_reducible refine cA ?_ _) | (with_reducible refine cN ?_ _) | (with_reducible refine cD ?_)))
   (case side4 => exact (Kd.R_reads' HO305.out).2.1)
   rintro e w29 ⟨rfl, hb⟩
   refine ⟨_, rfl, ?_⟩
   have n0_ := aS (Kd.V_below (by (with_reducible repeat (first | apply vA | apply vN | apply vD)); exact HO293.out) hb)
   have n1_ := aS (Kd.R_below (by (with_reducible repeat (first | apply rA | apply rN | apply rD)); exact HO305.out) hb)
   have n2_ := aS (q08 (g := gb290) (o := .cells #[.slice Ao15 t291.length co15, .bool t294] 24 (0, 0)) (by (with_reducible repeat (first | refine kN ?_ _ | refine kD ?_ | refine kA ?_ _)); exact BK290.out) hb)
   have n3_ := aS (q03 (by repeat (first | (with_reducible first | exact HB.out | apply bA | apply bN | apply bD | refine bS ?_ GE290.out) | exact HB.out)) hb)
   have z_HO309 := fun (h0_ : b 7 = true) => (show Kd.R (Kd.int .i64) 3 w29 w.heap.size (fun _ => True) v308 y307 from by first | exact (Kd.R_below (by (with_reducible repeat (first | apply rA | apply rN | apply rD)); exact (Q_HO309 h0_)) hb) | exact Kd.R_mono (Kd.R_below (by (with_reducible repeat (first | apply rA | apply rN | apply rD)); exact (Q_HO309 h0_)) hb) (fun _ h_ => by first | trivial | exact h_ | exact h_.1))
   clear HO293
   clear HO305
   clear BK290
   clear HB
   have HO293 := n0_
   have HO305 := n1_
   have BK290 := n2_
   have HB := n3_
   clear n0_ n1_ n2_ n3_
   (try clear hb)
   (try clear hb2)
   (try clear hk)
   (try clear hi)
   refine hK.out _ _ ⟨.slice Ao28 y303.length co28, v308, (by rw [ha.out]; exact q1v 2 hb_ rfl rfl rfl), (by (with_reducible repeat (first | apply vA | apply vN | apply vD)); exact HO293.out), (by (with_reducible repeat (first | refine kN ?_ _ | refine kD ?_ | refine kA ?_ _)); exact BK290.out), (by repeat (first | (with_reducible first | exact HB.out | apply bA | apply bN | apply bD | refine bS ?_ GE290.out) | exact HB.out)), fun _ => (by (with_reducible repeat (first | apply rA | apply rN | apply rD)); exact HO305.out), z_HO309⟩
  refine q1t ?_ ?_
  ·rintro b a w' ⟨v304, v308, ha, Q_HO293, Q_BK290, Q_HB, Q_HO305, Q_HO309⟩ hb_ hon hoff
   refine ⟨_, rfl, fun K hK => ?_⟩
   have e3 : a.tmps[3]? = some (.pointer (some ⟨gb290, 0, none⟩)) := by rw [ha]; exact (q1w rfl).trans rfl
   replace ha := aS ha
   have HO293 := aS Q_HO293
   have BK290 := aS Q_BK290
   have HB := aS Q_HB
   have hc0_ : w'.cell? ⟨gb290, 0, none⟩ = some (.slice Ao15 t291.length co15) := (q05 BK290.out 0).trans rfl
   have hc1_ : w'.cell? ⟨gb290, 1, none⟩ = some (.bool t294) := (q05 BK290.out 1).trans rfl
   refine value_ (w1 := w') (v := .agg #[.slice Ao15 t291.length co15, .bool t294]) (by rfl) rfl ?_ ?_
   ·go_simp
    (try simp only [q0d])
    try rfl
   refine hK.out _ _ ⟨v304, v308, (by rw [ha.out]; exact q1v 3 hb_ rfl rfl rfl), Q_HO293, Q_BK290, Q_HB, Q_HO305, Q_HO309⟩
  refine q1t ?_ ?_
  ·rintro b a w' ⟨v304, v308, ha, Q_HO293, Q_BK290, Q_HB, Q_HO305, Q_HO309⟩ hb_ hon hoff
   refine ⟨_, rfl, fun K hK => ?_⟩
   have e60 : a.tmps[60]? = some (.int .i64 a1) := by rw [ha]; exact (q1w rfl).trans rfl
   replace ha := aS ha
   have HO293 := aS Q_HO293
   have BK290 := aS Q_BK290
   have HB := aS Q_HB
   refine Kd.R_lit_step (Kd.int .i64) _ 3 ?hg (N := 61) ?hd (xs := ([a1] : List Int)) (inner := [.int .i64 a1]) (ok := fun _ => True) (okp := fun _ => True) ?hr ?hp (fun _ hk => hk) trivial (Below.refl _ _) (Nat.le_refl _) (by simp) ?_; (case hd => rfl); (case hg => rfl); (case hr => first | (go_simp; done) | (go_simp; rfl)); (case hp => exact (Reps.one (show Kd.M (Kd.int .i64) _ _ _ a1 [.int .i64 a1] from rfl) (Reps.none _ _)))
   intro v308 w25 ho26 hb hg_ hnew_
   clear hg_ hnew_
   (first | rw [← Ny307.out] at ho26 | (simp only [Int.reduceToNat] at ho26; rw [← Ny307.out] at ho26))
   have n0_ := aS (Kd.V_elder' (by (with_reducible repeat (first | apply vA | apply vN | apply vD)); exact HO293.out) (Kd.R_base ho26) hb)
   have n1_ := aS (Kd.R_lower ho26 (q0g (by repeat (first | (with_reducible first | exact HB.out | apply bA | apply bN | apply bD | refine bS ?_ GE290.out) | exact HB.out))))
   have n2_ := aS (q08 (g := gb290) (o := .cells #[.slice Ao15 t291.length co15, .bool t294] 24 (0, 0)) (by (with_reducible repeat (first | refine kN ?_ _ | refine kD ?_ | refine kA ?_ _)); exact BK290.out) hb)
   have n3_ := aS (q03 (by repeat (first | (with_reducible first | exact HB.out | apply bA | apply bN | apply bD | refine bS ?_ GE290.out) | exact HB.out)) hb)
   have z_HO305 := fun (h0_ : b 3 = true) => (show Kd.R (Kd.int .i64) 3 w25 w.heap.size (fun _ => True) v304 y303 from by first | exact (Kd.R_elder' (by (with_reducible repeat (first | apply rA | apply rN | apply rD)); exact (Q_HO305 h0_)) (Kd.R_base ho26) hb) | exact Kd.R_mono (Kd.R_elder' (by (with_reducible repeat (first | apply rA | apply rN | apply rD)); exact (Q_HO305 h0_)) (Kd.R_base ho26) hb) (fun _ h_ => by first | trivial | exact h_ | exact h_.1))
   clear HO293
   clear BK290
   clear HB
   have HO293 := n0_
   have HO309 := n1_
   have BK290 := n2_
   have HB := n3_
   clear n0_ n1_ n2_ n3_
   clear hb ho26
   refine hK.out _ _ ⟨v304, v308, (by rw [ha.out]; exact q1v 4 hb_ rfl rfl rfl), (by (with_reducible repeat (first | apply vA | apply vN | apply vD)); exact Kd.V_mono HO293.out (fun _ hk => by first | exact ⟨hk.2, hk.1⟩ | exact hk | exact ⟨hk.2, hk.1⟩ | exact hk.1 | exact hk.2)), (by (with_reducible repeat (first | refine kN ?_ _ | refine kD ?_ | refine kA ?_ _)); exact BK290.out), (by repeat (first | (with_reducible first | exact HB.out | apply bA | apply bN | apply bD | refine bS ?_ GE290.out) | exact HB.out)), z_HO305, fun _ => (by (with_reducible repeat (first | apply rA | apply rN | apply rD)); exact HO309.out)⟩
  refine q1t ?_ ?_
  ·rintro b a w' ⟨v304, v308, ha, Q_HO293, Q_BK290, Q_HB, Q_HO305, Q_HO309⟩ hb_ hon hoff
   refine ⟨_, rfl, fun K hK => ?_⟩
   have e59 : a.tmps[59]? = some (.agg #[.slice Ao15 t291.length co15, .bool t294]) := by rw [ha]; exact putSel_on (e := (5, 59, .agg #[.slice Ao15 t291.length co15, .bool t294])) 3 rfl rfl (hon 5 (by kernel_rfl)) rfl
   have e61 : a.tmps[61]? = some (v308) := by rw [ha]; exact putSel_on (e := (7, 61, v308)) 4 rfl rfl (hon 7 (by kernel_rfl)) rfl
   replace ha := aS ha
   have HO293 := aS Q_HO293
   have BK290 := aS Q_BK290
   have HB := aS Q_HB
   have HO305 := aS (Q_HO305 (hon 3 (by kernel_rfl)))
   have HO309 := aS (Q_HO309 (hon 7 (by kernel_rfl)))
   obtain ⟨Ao32, co32, eo32⟩ := Kd.R_slice HO309.out
   (first | subst eo32 | (injection eo32 with f1_ f2_ f3_; have f4_ := f1_.symm; have f5_ := f3_.symm; clear f1_ f2_ f3_; subst f4_; subst f5_))
   refine goes_ Tryd.func18 (by kernel_rfl) rfl #[.agg #[.slice Ao15 t291.length co15, .bool t294], .slice Ao32 y307.length co32] (by rfl) rfl rfl (by first | (simp only [List.map_toArray, List.map_cons, List.map_nil, Act.eval, Array.getD_eq_getD_getElem?, Option.getD_some, e59, e61]; done) | (simp only [List.map_toArray, List.map_cons, List.map_nil, Act.eval, Array.getD_eq_getD_getElem?, Option.getD_some, e59, e61]; rfl)) ?_
   with_reducible refine (clerestoryref1_WalkErr.calls k _ _ t291 t294 _ _ y307 t310 _ ?side1 ?side2 ?side3 ?side4 A10.out).mono ?_
   (case side1 => repeat (first | exact (Kd.V_reads' HO293.out).2.2 | (with_reducible refine cA ?_ _) | (with_reducible refine cN ?_ _) | (with_reducible refine cD ?_)))
   (case side2 => exact (Kd.V_reads' HO293.out).2.1)
   (case side3 => repeat (first | exact (Kd.R_reads' HO309.out).2.2 | (with_reducible refine cA ?_ _) | (with_reducible refine cN ?_ _) | (with_reducible refine cD ?_)))
   (case side4 => exact (Kd.R_reads' HO309.out).2.1)
   rintro e w33 ⟨rfl, hb⟩
   refine ⟨_, rfl, ?_⟩
   have n0_ := aS (Kd.V_below (by (with_reducible repeat (first | apply vA | apply vN | apply vD)); exact HO293.out) hb)
   have n1_ := aS (Kd.R_below (by (with_reducible repeat (first | apply rA | apply rN | apply rD)); exact HO305.out) hb)
   have n2_ := aS (Kd.R_below (by (with_reducible repeat (first | apply rA | apply rN | apply rD)); exact HO309.out) hb)
   have n3_ := aS (q08 (g := gb290) (o := .cells #[.slice Ao15 t291.length co15, .bool t294] 24 (0, 0)) (by (with_reducible repeat (first | refine kN ?_ _ | refine kD ?_ | refine kA ?_ _)); exact BK290.out) hb)
   have n4_ := aS (q03 (by repeat (first | (with_reducible first | exact HB.out | apply bA | apply bN | apply bD | refine bS ?_ GE290.out) | exact HB.out)) hb)
   clear HO293
   clear HO305
   clear HO309
   clear BK290
   clear HB
   have HO293 := n0_
   have HO305 := n1_
   have HO309 := n2_
   have BK290 := n3_
   have HB := n4_
   clear n0_ n1_ n2_ n3_ n4_
   (try clear hb)
   (try clear hb2)
   (try clear hk)
   (try clear hi)
   refine hK.out _ _ ⟨v304, .slice Ao32 y307.length co32, (by rw [ha.out]; exact q1v 5 hb_ rfl rfl rfl), (by (with_reducible repeat (first | apply vA | apply vN | apply vD)); exact HO293.out), (by (with_reducible repeat (first | refine kN ?_ _ | refine kD ?_ | refine kA ?_ _)); exact BK290.out), (by repeat (first | (with_reducible first | exact HB.out | apply bA | apply bN | apply bD | refine bS ?_ GE290.out) | exact HB.out)), fun _ => (by (with_reducible repeat (first | apply rA | apply rN | apply rD)); exact HO305.out), fun _ => (by (with_reducible repeat (first | apply rA | apply rN | apply rD)); exact HO309.out)⟩
  refine q1t ?_ ?_
  ·rintro b a w' ⟨v304, v308, ha, Q_HO293, Q_BK290, Q_HB, Q_HO305, Q_HO309⟩ hb_ hon hoff
   refine ⟨_, rfl, fun K hK => ?_⟩
   have e58 : a.tmps[58]? = some (.int .i64 t306) := by rw [ha]; exact putSel_on (e := (4, 58, .int .i64 t306)) 2 rfl rfl (hon 4 (by kernel_rfl)) rfl
   replace ha := aS ha
   have HO293 := aS Q_HO293
   have BK290 := aS Q_BK290
   have HB := aS Q_HB
   have HO305 := aS (Q_HO305 (hon 3 (by kernel_rfl)))
   have HO309 := aS (Q_HO309 (hon 7 (by kernel_rfl)))
   refine value_ (w1 := w') (v := .int .i64 t306) (by rfl) rfl ?_ ?_
   ·go_simp
    (try simp only [q0d])
    try rfl
   refine hK.out _ _ ⟨v304, v308, (by rw [ha.out]; exact q1v 6 hb_ rfl rfl rfl), Q_HO293, Q_BK290, Q_HB, Q_HO305, Q_HO309⟩
  refine q1t ?_ ?_
  ·rintro b a w' ⟨v304, v308, ha, Q_HO293, Q_BK290, Q_HB, Q_HO305, Q_HO309⟩ hb_ hon hoff
   refine ⟨_, rfl, fun K hK => ?_⟩
   have e62 : a.tmps[62]? = some (.int .i64 t310) := by rw [ha]; exact putSel_on (e := (8, 62, .int .i64 t310)) 5 rfl rfl (hon 8 (by kernel_rfl)) rfl
   replace ha := aS ha
   have HO293 := aS Q_HO293
   have BK290 := aS Q_BK290
   have HB := aS Q_HB
   have HO305 := aS (Q_HO305 (hon 3 (by kernel_rfl)))
   have HO309 := aS (Q_HO309 (hon 7 (by kernel_rfl)))
   refine value_ (w1 := w') (v := .int .i64 t310) (by rfl) rfl ?_ ?_
   ·go_simp
    (try simp only [q0d])
    try rfl
   refine hK.out _ _ ⟨v304, v308, (by rw [ha.out]; exact q1v 7 hb_ rfl rfl rfl), Q_HO293, Q_BK290, Q_HB, Q_HO305, Q_HO309⟩
  exact steps_nil
 rintro b a w33 hall ⟨v304, v308, ha, Q_HO293, Q_BK290, Q_HB, Q_HO305, Q_HO309⟩
 clear BK290 HB HO293
 have hb0_ := hall 0 (by kernel_rfl)
 have hb3_ := hall 3 (by kernel_rfl)
 have hb4_ := hall 4 (by kernel_rfl)
 have hb5_ := hall 5 (by kernel_rfl)
 have hb7_ := hall 7 (by kernel_rfl)
 have hb8_ := hall 8 (by kernel_rfl)
 have hb9_ := hall 9 (by kernel_rfl)
 have hb10_ := hall 10 (by kernel_rfl)
 subst ha
 simp only [q1n, hb0_, hb3_, hb4_, hb5_, hb7_, hb8_, hb9_, hb10_, if_true, Act.put, List.setIfInBounds_toArray, List.set_cons_zero, List.set_cons_succ]
 have HO293 := aS Q_HO293
 clear Q_HO293
 have BK290 := aS Q_BK290
 clear Q_BK290
 have HB := aS Q_HB
 clear Q_HB
 have HO305 := aS (Q_HO305 hb3_)
 clear Q_HO305
 have HO309 := aS (Q_HO309 hb7_)
 clear Q_HO309
 clear hall hb0_ hb3_ hb4_ hb5_ hb7_ hb8_ hb9_ hb10_
 go_upto_if 64 with (fail)
 go_cut [17, 18, 19] (fun v17 v18 v19 wc => ∃ (kq : Nat) (x17_10 : Bool) (x18_10 : Bool) (x19_10 : Int), v17 = .bool x17_10 ∧ v18 = .bool x18_10 ∧ v19 = .int .i64 x19_10 ∧ Aside0 (clerestorylaw1_WalkPairs.j1 kq a1 t295 t296 t297 t298 t299 t300 t301 t302 t306 t310 x17_10 x18_10 x19_10 0 t291 t294 = some r) ∧ Aside0 (kq ≤ k) ∧ Aside0 (Kd.V k43 43 wc w.heap.size (fun k_ => k_ ≠ gb290) (.slice Ao15 t291.length co15) t291) ∧ Aside0 (wc.heap[gb290]? = some (.cells #[(.slice Ao15 t291.length co15), .bool t294] 24 (0, 0))) ∧ Aside0 (Below w.heap.size w wc))
 case first =>
  have H := HC11.out
  clear HC11
  refine iE H ?p34 ?n34 <;> clear H
  case' p34 => intro c34b0 c34b1 H
  case' n34 => intro c34 c34b0 c34b1 H
  case p34 =>
   (first | rw [c34b0] | (simp only [q0d, q0e]; rw [c34b0]) | skip)
   replace H := iB H
   obtain ⟨t311, A35, H⟩ := H
   have H' := aS H
   clear H
   obtain ⟨hczL_0, hczL_1, hfzL_0, hfzL_1⟩ := bk2 BK290.out
   go_wp2_with (first | ((with_reducible refine q06 (f := 25) rfl ?_); refine q0k (some 66) rfl rfl Tryd.func25 (by kernel_rfl) rfl #[.agg #[.slice Ao15 t291.length co15, .bool t294], .int .i64 0] rfl (by (try simp only [List.map_toArray, List.map_cons, List.map_nil]); first | done | rfl | (simp only [List.length_drop, List.length_take]; rfl)) ?_; (with_reducible refine (clerestoryref1_Below.calls k _ _ t291 t294 0 t311 _ ?side1 ?side2 A35.out).mono ?_); (case side1 => repeat (first | exact (Kd.V_reads' HO293.out).2.2 | (with_reducible refine cA ?_ _) | (with_reducible refine cN ?_ _) | (with_reducible refine cD ?_))); (case side2 => exact (Kd.V_reads' HO293.out).2.1); rintro e w37 ⟨v312, rfl, ho0, hb⟩; refine ⟨_, rfl, ?_⟩; have n0_ := aS (Kd.V_elder' (by (with_reducible repeat (first | apply vA | apply vN | apply vD)); exact HO293.out) (Kd.R_base ho0) hb); have n1_ := aS (Kd.R_elder' (by (with_reducible repeat (first | apply rA | apply rN | apply rD)); exact HO305.out) (Kd.R_base ho0) hb); have n2_ := aS (Kd.R_elder' (by (with_reducible repeat (first | apply rA | apply rN | apply rD)); exact HO309.out) (Kd.R_base ho0) hb); have n3_ := aS (Kd.R_lower (Kd.R_new' (Kd.R_new' ho0 (Kd.R_lt (by (with_reducible repeat (first | apply rA | apply rN | apply rD)); exact HO305.out))) (Kd.R_lt (by (with_reducible repeat (first | apply rA | apply rN | apply rD)); exact HO309.out))) (q0g (by repeat (first | (with_reducible first | exact HB.out | apply bA | apply bN | apply bD | refine bS ?_ GE290.out) | exact HB.out)))); have n4_ := aS (q08 (g := gb290) (o := .cells #[.slice Ao15 t291.length co15, .bool t294] 24 (0, 0)) (by (with_reducible repeat (first | refine kN ?_ _ | refine kD ?_ | refine kA ?_ _)); exact BK290.out) hb); have n5_ := aS (q03 (by repeat (first | (with_reducible first | exact HB.out | apply bA | apply bN | apply bD | refine bS ?_ GE290.out) | exact HB.out)) hb); clear HO293; clear HO305; clear HO309; clear BK290; clear HB; have HO293 := n0_; have HO305 := n1_; have HO309 := n2_; have HO313 := n3_; have BK290 := n4_; have HB := n5_; clear n0_ n1_ n2_ n3_ n4_ n5_; (try clear hb); (try clear hb2); (try clear hk); (try clear hi); (try clear ho0); obtain ⟨Ao38, co38, eo38⟩ := Kd.R_slice HO313.out; subst eo38))
   go_loopg [17, 68] k (fun kq v17 v68 w' => ∃ (x17_1 : Bool) (x68_1 : Int), v17 = .bool x17_1 ∧ v68 = .int .i64 x68_1 ∧ Aside0 (clerestorylaw1_WalkPairs.l0 kq a1 a2 t295 t296 t297 t298 t299 t300 t301 t302 t306 t310 x17_1 0 t311 (t311.length : Int) x68_1 t291 t294 = some r) ∧ Aside0 (kq ≤ k) ∧ Aside0 (Kd.R (Kd.int .i64) 3 w' w.heap.size (fun _ => True) (.slice Ao38 t311.length co38) t311) ∧ Aside0 (Kd.V k43 43 w' w.heap.size (fun k_ => some k_ ≠ ((.slice Ao38 t311.length co38) : Value).ownBlock ∧ k_ ≠ gb290) (.slice Ao15 t291.length co15) t291) ∧ Aside0 (w'.heap[gb290]? = some (.cells #[(.slice Ao15 t291.length co15), .bool t294] 24 (0, 0))) ∧ Aside0 (Below w.heap.size w w'))
   case atStart => exact ⟨(false), (0), (by first | rfl | (simp; done) | simp [*]), (by first | rfl | (simp; done) | simp [*]), H', ⟨Nat.le_refl _⟩, ⟨by (with_reducible repeat (first | apply rA | apply rN | apply rD)); exact Kd.R_mono HO313.out (fun _ hk => trivial)⟩, ⟨by (with_reducible repeat (first | apply vA | apply vN | apply vD)); exact Kd.V_mono HO293.out (fun _ hk => by first | exact ⟨hk.2, hk.1.2.2⟩ | exact hk | exact ⟨hk.2, hk.1⟩ | exact hk.1 | exact hk.2)⟩, ⟨by (with_reducible repeat (first | refine kN ?_ _ | refine kD ?_ | refine kA ?_ _)); exact BK290.out⟩, ⟨by repeat (first | (with_reducible first | exact HB.out | apply bA | apply bN | apply bD | refine bS ?_ GE290.out) | exact HB.out)⟩⟩
   case round =>
    clear H'
    obtain ⟨x17_1, x68_1, rfl, rfl, HA, HK1, HO_66, HO_291000, BK290, HB⟩ := hrel
    cases gk with
    | zero => exact absurd HA.out (by simp [clerestorylaw1_WalkPairs.l0])
    | succ k1 =>
     have H := HA.out
     clear HA
     simp only [clerestorylaw1_WalkPairs.l0] at H
     refine iT H ?p39 ?n39 <;> clear H
     case' p39 => intro c39b0 H; refine iLp H ?_; clear H; intro c40b0 H; refine iTp H ?_; clear H; intro c41b0 H; refine iE H ?p42 ?n42 <;> clear H
     case' p42 => intro c42b0 c42b1 H
     case' n42 =>
      intro c42 c42b0 c42b1 H
      obtain ⟨ad314, e314, hx314_0, p314, q314⟩ := atIA (Kd.R_reads' HO_66.out).2.2 x68_1 (by first | with_reducible assumption | assumption) (by first | with_reducible assumption | assumption)
      cases e314
      refine iV H ?p48 ?n48 <;> clear H
     case' p48 => intro c48 H; subst c48
     case' n48 => intro c48 H; subst c48
     case' n39 => intro c39b0 H
     case p42 =>
      replace H := iB H
      obtain ⟨t315, A43, H⟩ := H
      replace H := iB H
      obtain ⟨t316, A44, H⟩ := H
      have H' := aS H
      clear H
      obtain ⟨ad314, e314, hx314_0, p314, q314⟩ := atIA (Kd.R_reads' HO_66.out).2.2 x68_1 (by first | with_reducible assumption | assumption) (by first | with_reducible assumption | assumption)
      cases e314
      try go_wp2
      have n0_ := aS (Kd.R_drew HO_66.out)
      have n1_ := aS (Kd.V_drew HO_291000.out)
      have n2_ := aS (q1e BK290.out)
      have n3_ := aS (q0s HB.out)
      clear HO_66
      clear HO_291000
      clear BK290
      clear HB
      have HO_66 := n0_
      have HO_291000 := n1_
      have BK290 := n2_
      have HB := n3_
      clear n0_ n1_ n2_ n3_
      refine start_ (n := 10) (S := fun w' => w'.cell? ⟨gb290, 0, none⟩ = some (.slice Ao15 t291.length co15) ∧ w'.cell? ⟨gb290, 1, none⟩ = some (.bool t294)) (ds := []) #[false, false, false, false, false, false, false, false, false, false] (by kernel_rfl) rfl rfl ⟨(q05 BK290.out 0).trans rfl, (q05 BK290.out 1).trans rfl⟩ (fun hHeld => ?_); refine q1c clerestorylaw1_WalkPairs.tab15 clerestorylaw1_WalkPairs.bits15 (fun HT_ HW_ => ?_)
      generalize wr.drew = w45 at HO_66 HO_291000 BK290 HB hHeld ⊢
      refine q0o (i := 1) (N := some 83) (v := ?_) (a' := ?_) #[false, true, false, false, false, false, false, false, false, false] rfl rfl (q0i HT_.out (by kernel_rfl)) (fun _ _ _ h => h) (Or.inl ⟨by rfl, ?_⟩) ?_ ?_
      rotate_left
      ·intro w'
       go_simp
       with_reducible rfl
      rotate_left
      ·simp only [Act.put, s1, s2, s3, q0d, q0e]
       rfl
      refine q0o (i := 2) (N := some 84) (v := ?_) (a' := ?_) #[false, true, true, false, false, false, false, false, false, false] rfl rfl (q0i HT_.out (by kernel_rfl)) (fun _ _ _ h => h) (Or.inl ⟨by rfl, ?_⟩) ?_ ?_
      rotate_left
      ·intro w'
       go_simp
       with_reducible rfl
      rotate_left
      ·simp only [Act.put, s1, s2, s3, q0d, q0e]
       rfl
      refine q0o (i := 5) (N := some 87) (v := ?_) (a' := ?_) #[false, true, true, false, false, true, false, false, false, false] rfl rfl (q0i HT_.out (by kernel_rfl)) (fun _ _ _ h => h) (Or.inl ⟨by rfl, ?_⟩) ?_ ?_
      rotate_left
      ·intro w'
       go_simp
       with_reducible rfl
      rotate_left
      ·simp only [Act.put, s1, s2, s3, q0d, q0e]
       rfl
      refine q0o (i := 6) (N := some 88) (v := ?_) (a' := ?_) #[false, true, true, false, false, true, true, false, false, false] rfl rfl (q0i HT_.out (by kernel_rfl)) (fun _ _ _ h => h) (Or.inl ⟨by rfl, ?_⟩) ?_ ?_
      rotate_left
      ·intro w'
       go_simp
       with_reducible rfl
      rotate_left
      ·simp only [Act.put, s1, s2, s3, q0d, q0e]
       rfl
      refine take_ (i := 0) (N := some 82) (v := ?_) (a' := ?_) #[true, true, true, false, false, true, true, false, false, false] rfl rfl (q0r HT_.out HW_.out (by kernel_rfl)) (fun _ _ _ h => h) (Or.inl ⟨by rfl, ?_⟩) hHeld ?_ ?_
      rotate_left
      ·rintro w' ⟨s0, s1⟩
       go_simp
       with_reducible rfl
      rotate_left
      ·simp only [Act.put, s1, s2, s3, q0d, q0e]
       rfl
      refine take_ (i := 4) (N := some 86) (v := ?_) (a' := ?_) #[true, true, true, false, true, true, true, false, false, false] rfl rfl (q0r HT_.out HW_.out (by kernel_rfl)) (fun _ _ _ h => h) (Or.inl ⟨by rfl, ?_⟩) hHeld ?_ ?_
      rotate_left
      ·rintro w' ⟨s0, s1⟩
       go_simp
       with_reducible rfl
      rotate_left
      ·simp only [Act.put, s1, s2, s3, q0d, q0e]
       rfl
      refine one_ (i := 3) (N := some 85) #[true, true, true, true, true, true, true, false, false, false] rfl rfl (one_of HT_.out (by kernel_rfl)) (by decide) (fun K hK => ?_)
      refine goes_ Tryd.func26 (by kernel_rfl) rfl #[.agg #[.slice Ao15 t291.length co15, .bool t294], .int .i64 a1, .int .i64 a2] (by rfl) rfl rfl (by (try simp only [List.map_toArray, List.map_cons, List.map_nil]); first | done | rfl | (simp only [List.length_drop, List.length_take]; rfl)) ?_
      with_reducible refine (clerestoryref1_Under.calls k1 _ _ t291 t294 a1 a2 t315 _ ?side1 ?side2 A43.out).mono ?_
      (case side1 => repeat (first | exact (Kd.V_reads' HO_291000.out).2.2 | (with_reducible refine cA ?_ _) | (with_reducible refine cN ?_ _) | (with_reducible refine cD ?_)))
      (case side2 => exact (Kd.V_reads' HO_291000.out).2.1)
      rintro e w46 ⟨rfl, hb⟩
      refine ⟨_, rfl, ?_⟩
      have n0_ := aS (Kd.R_below (by (with_reducible repeat (first | apply rA | apply rN | apply rD)); exact HO_66.out) hb)
      have n1_ := aS (Kd.V_below (by (with_reducible repeat (first | apply vA | apply vN | apply vD)); exact HO_291000.out) hb)
      have n2_ := aS (q08 (g := gb290) (o := .cells #[.slice Ao15 t291.length co15, .bool t294] 24 (0, 0)) (by (with_reducible repeat (first | refine kN ?_ _ | refine kD ?_ | refine kA ?_ _)); exact BK290.out) hb)
      have n3_ := aS (q03 (by repeat (first | (with_reducible first | exact HB.out | apply bA | apply bN | apply bD | refine bS ?_ GE290.out) | exact HB.out)) hb)
      clear HO_66
      clear HO_291000
      clear BK290
      clear HB
      have HO_66 := n0_
      have HO_291000 := n1_
      have BK290 := n2_
      have HB := n3_
      clear n0_ n1_ n2_ n3_
      (try clear hb)
      (try clear hb2)
      (try clear hk)
      (try clear hi)
      refine hK.out _ _ ⟨(q05 BK290.out 0).trans rfl, (q05 BK290.out 1).trans rfl⟩ (fun hHeld => ?_)
      clear hK K
      refine norm_ (a' := ?_) ?_ ?_
      rotate_left
      ·show Act.put _ (some 85) _ = _
       simp only [Act.put, s1, s2, s3, q0d, q0e]
       rfl
      refine one_ (i := 7) (N := some 89) #[true, true, true, true, true, true, true, true, false, false] rfl rfl (one_of HT_.out (by kernel_rfl)) (by decide) (fun K hK => ?_)
      refine goes_ Tryd.func27 (by kernel_rfl) rfl #[.agg #[.slice Ao15 t291.length co15, .bool t294], .int .i64 a1, .int .i64 a2] (by rfl) rfl rfl (by (try simp only [List.map_toArray, List.map_cons, List.map_nil]); first | done | rfl | (simp only [List.length_drop, List.length_take]; rfl)) ?_
      with_reducible refine (clerestoryref1_WalkCommon.calls k1 _ _ t291 t294 a1 a2 t316 _ ?side1 ?side2 A44.out).mono ?_
      (case side1 => repeat (first | exact (Kd.V_reads' HO_291000.out).2.2 | (with_reducible refine cA ?_ _) | (with_reducible refine cN ?_ _) | (with_reducible refine cD ?_)))
      (case side2 => exact (Kd.V_reads' HO_291000.out).2.1)
      rintro e w47 ⟨rfl, hb⟩
      refine ⟨_, rfl, ?_⟩
      have n0_ := aS (Kd.R_below (by (with_reducible repeat (first | apply rA | apply rN | apply rD)); exact HO_66.out) hb)
      have n1_ := aS (Kd.V_below (by (with_reducible repeat (first | apply vA | apply vN | apply vD)); exact HO_291000.out) hb)
      have n2_ := aS (q08 (g := gb290) (o := .cells #[.slice Ao15 t291.length co15, .bool t294] 24 (0, 0)) (by (with_reducible repeat (first | refine kN ?_ _ | refine kD ?_ | refine kA ?_ _)); exact BK290.out) hb)
      have n3_ := aS (q03 (by repeat (first | (with_reducible first | exact HB.out | apply bA | apply bN | apply bD | refine bS ?_ GE290.out) | exact HB.out)) hb)
      clear HO_66
      clear HO_291000
      clear BK290
      clear HB
      have HO_66 := n0_
      have HO_291000 := n1_
      have BK290 := n2_
      have HB := n3_
      clear n0_ n1_ n2_ n3_
      (try clear hb)
      (try clear hb2)
      (try clear hk)
      (try clear hi)
      refine hK.out _ _ ⟨(q05 BK290.out 0).trans rfl, (q05 BK290.out 1).trans rfl⟩ (fun hHeld => ?_)
      clear hK K
      refine norm_ (a' := ?_) ?_ ?_
      rotate_left
      ·show Act.put _ (some 89) _ = _
       simp only [Act.put, s1, s2, s3, q0d, q0e]
       rfl
      refine q0o (i := 8) (N := some 18) (v := ?_) (a' := ?_) #[true, true, true, true, true, true, true, true, true, false] rfl rfl (q0i HT_.out (by kernel_rfl)) (fun _ _ _ h => h) (Or.inl ⟨by rfl, ?_⟩) ?_ ?_
      rotate_left
      ·intro w'
       go_simp
       with_reducible rfl
      rotate_left
      ·simp only [Act.put, s1, s2, s3, q0d, q0e]
       rfl
      refine q0o (i := 9) (N := some 19) (v := ?_) (a' := ?_) #[true, true, true, true, true, true, true, true, true, true] rfl rfl (q0i HT_.out (by kernel_rfl)) (fun _ _ _ h => h) (Or.inl ⟨by rfl, ?_⟩) ?_ ?_
      rotate_left
      ·intro w'
       go_simp
       with_reducible rfl
      rotate_left
      ·simp only [Act.put, s1, s2, s3, q0d, q0e]
       rfl
      refine done_ (done_of HT_.out (by kernel_rfl)) ?_
      try go_wp2
      go_meet
      case rel => exact ⟨_, (x17_1), (t315), (t316), (by first | rfl | (simp; done) | simp [*]), (by first | rfl | (simp; done) | simp [*]), (by first | rfl | (simp; done) | simp [*]), H', ⟨by have := HK1.out; first | omega | exact Nat.le_refl _⟩, ⟨by (with_reducible repeat (first | apply vA | apply vN | apply vD)); exact Kd.V_mono HO_291000.out (fun _ hk => hk.2)⟩, ⟨by (with_reducible repeat (first | refine kN ?_ _ | refine kD ?_ | refine kA ?_ _)); exact BK290.out⟩, ⟨by repeat (first | (with_reducible first | exact HB.out | apply bA | apply bN | apply bD | refine bS ?_ GE290.out) | exact HB.out)⟩⟩
     case p48 =>
      have H' := aS H
      clear H
      go_wp2
      go_roundg k1
      case measure => have := HK1.out; omega
      case rel => exact ⟨(true), (wrap64 (x68_1 + 1)), (by first | rfl | (simp; done) | simp [*]), (by first | rfl | (simp; done) | simp [*]), H', ⟨by have := HK1.out; omega⟩, ⟨by (with_reducible repeat (first | apply rA | apply rN | apply rD)); exact HO_66.out⟩, ⟨by (with_reducible repeat (first | apply vA | apply vN | apply vD)); exact HO_291000.out⟩, ⟨by (with_reducible repeat (first | refine kN ?_ _ | refine kD ?_ | refine kA ?_ _)); exact BK290.out⟩, ⟨by repeat (first | (with_reducible first | exact HB.out | apply bA | apply bN | apply bD | refine bS ?_ GE290.out) | exact HB.out)⟩⟩
     case n48 =>
      have H' := aS H
      clear H
      go_wp2
      go_roundg k1
      case measure => have := HK1.out; omega
      case rel => exact ⟨(((rd t311 x68_1) == a1)), (wrap64 (x68_1 + 1)), (by first | rfl | (simp; done) | simp [*]), (by first | rfl | (simp; done) | simp [*]), H', ⟨by have := HK1.out; omega⟩, ⟨by (with_reducible repeat (first | apply rA | apply rN | apply rD)); exact HO_66.out⟩, ⟨by (with_reducible repeat (first | apply vA | apply vN | apply vD)); exact HO_291000.out⟩, ⟨by (with_reducible repeat (first | refine kN ?_ _ | refine kD ?_ | refine kA ?_ _)); exact BK290.out⟩, ⟨by repeat (first | (with_reducible first | exact HB.out | apply bA | apply bN | apply bD | refine bS ?_ GE290.out) | exact HB.out)⟩⟩
     case n39 =>
      replace H := iB H
      obtain ⟨t317, A49, H⟩ := H
      replace H := iB H
      obtain ⟨t318, A50, H⟩ := H
      have H' := aS H
      clear H
      try go_wp2
      have n0_ := aS (Kd.R_drew HO_66.out)
      have n1_ := aS (Kd.V_drew HO_291000.out)
      have n2_ := aS (q1e BK290.out)
      have n3_ := aS (q0s HB.out)
      clear HO_66
      clear HO_291000
      clear BK290
      clear HB
      have HO_66 := n0_
      have HO_291000 := n1_
      have BK290 := n2_
      have HB := n3_
      clear n0_ n1_ n2_ n3_
      refine start_ (n := 10) (S := fun w' => w'.cell? ⟨gb290, 0, none⟩ = some (.slice Ao15 t291.length co15) ∧ w'.cell? ⟨gb290, 1, none⟩ = some (.bool t294)) (ds := []) #[false, false, false, false, false, false, false, false, false, false] (by kernel_rfl) rfl rfl ⟨(q05 BK290.out 0).trans rfl, (q05 BK290.out 1).trans rfl⟩ (fun hHeld => ?_); refine q1c clerestorylaw1_WalkPairs.tab15 clerestorylaw1_WalkPairs.bits15 (fun HT_ HW_ => ?_)
      generalize wr.drew = w51 at HO_66 HO_291000 BK290 HB hHeld ⊢
      refine q0o (i := 1) (N := some 83) (v := ?_) (a' := ?_) #[false, true, false, false, false, false, false, false, false, false] rfl rfl (q0i HT_.out (by kernel_rfl)) (fun _ _ _ h => h) (Or.inl ⟨by rfl, ?_⟩) ?_ ?_
      rotate_left
      ·intro w'
       go_simp
       with_reducible rfl
      rotate_left
      ·simp only [Act.put, s1, s2, s3, q0d, q0e]
       rfl
      refine q0o (i := 2) (N := some 84) (v := ?_) (a' := ?_) #[false, true, true, false, false, false, false, false, false, false] rfl rfl (q0i HT_.out (by kernel_rfl)) (fun _ _ _ h => h) (Or.inl ⟨by rfl, ?_⟩) ?_ ?_
      rotate_left
      ·intro w'
       go_simp
       with_reducible rfl
      rotate_left
      ·simp only [Act.put, s1, s2, s3, q0d, q0e]
       rfl
      refine q0o (i := 5) (N := some 87) (v := ?_) (a' := ?_) #[false, true, true, false, false, true, false, false, false, false] rfl rfl (q0i HT_.out (by kernel_rfl)) (fun _ _ _ h => h) (Or.inl ⟨by rfl, ?_⟩) ?_ ?_
      rotate_left
      ·intro w'
       go_simp
       with_reducible rfl
      rotate_left
      ·simp only [Act.put, s1, s2, s3, q0d, q0e]
       rfl
      refine q0o (i := 6) (N := some 88) (v := ?_) (a' := ?_) #[false, true, true, false, false, true, true, false, false, false] rfl rfl (q0i HT_.out (by kernel_rfl)) (fun _ _ _ h => h) (Or.inl ⟨by rfl, ?_⟩) ?_ ?_
      rotate_left
      ·intro w'
       go_simp
       with_reducible rfl
      rotate_left
      ·simp only [Act.put, s1, s2, s3, q0d, q0e]
       rfl
      refine take_ (i := 0) (N := some 82) (v := ?_) (a' := ?_) #[true, true, true, false, false, true, true, false, false, false] rfl rfl (q0r HT_.out HW_.out (by kernel_rfl)) (fun _ _ _ h => h) (Or.inl ⟨by rfl, ?_⟩) hHeld ?_ ?_
      rotate_left
      ·rintro w' ⟨s0, s1⟩
       go_simp
       with_reducible rfl
      rotate_left
      ·simp only [Act.put, s1, s2, s3, q0d, q0e]
       rfl
      refine take_ (i := 4) (N := some 86) (v := ?_) (a' := ?_) #[true, true, true, false, true, true, true, false, false, false] rfl rfl (q0r HT_.out HW_.out (by kernel_rfl)) (fun _ _ _ h => h) (Or.inl ⟨by rfl, ?_⟩) hHeld ?_ ?_
      rotate_left
      ·rintro w' ⟨s0, s1⟩
       go_simp
       with_reducible rfl
      rotate_left
      ·simp only [Act.put, s1, s2, s3, q0d, q0e]
       rfl
      refine one_ (i := 3) (N := some 85) #[true, true, true, true, true, true, true, false, false, false] rfl rfl (one_of HT_.out (by kernel_rfl)) (by decide) (fun K hK => ?_)
      refine goes_ Tryd.func26 (by kernel_rfl) rfl #[.agg #[.slice Ao15 t291.length co15, .bool t294], .int .i64 a1, .int .i64 a2] (by rfl) rfl rfl (by (try simp only [List.map_toArray, List.map_cons, List.map_nil]); first | done | rfl | (simp only [List.length_drop, List.length_take]; rfl)) ?_
      with_reducible refine (clerestoryref1_Under.calls k1 _ _ t291 t294 a1 a2 t317 _ ?side1 ?side2 A49.out).mono ?_
      (case side1 => repeat (first | exact (Kd.V_reads' HO_291000.out).2.2 | (with_reducible refine cA ?_ _) | (with_reducible refine cN ?_ _) | (with_reducible refine cD ?_)))
      (case side2 => exact (Kd.V_reads' HO_291000.out).2.1)
      rintro e w52 ⟨rfl, hb⟩
      refine ⟨_, rfl, ?_⟩
      have n0_ := aS (Kd.R_below (by (with_reducible repeat (first | apply rA | apply rN | apply rD)); exact HO_66.out) hb)
      have n1_ := aS (Kd.V_below (by (with_reducible repeat (first | apply vA | apply vN | apply vD)); exact HO_291000.out) hb)
      have n2_ := aS (q08 (g := gb290) (o := .cells #[.slice Ao15 t291.length co15, .bool t294] 24 (0, 0)) (by (with_reducible repeat (first | refine kN ?_ _ | refine kD ?_ | refine kA ?_ _)); exact BK290.out) hb)
      have n3_ := aS (q03 (by repeat (first | (with_reducible first | exact HB.out | apply bA | apply bN | apply bD | refine bS ?_ GE290.out) | exact HB.out)) hb)
      clear HO_66
      clear HO_291000
      clear BK290
      clear HB
      have HO_66 := n0_
      have HO_291000 := n1_
      have BK290 := n2_
      have HB := n3_
      clear n0_ n1_ n2_ n3_
      (try clear hb)
      (try clear hb2)
      (try clear hk)
      (try clear hi)
      refine hK.out _ _ ⟨(q05 BK290.out 0).trans rfl, (q05 BK290.out 1).trans rfl⟩ (fun hHeld => ?_)
      clear hK K
      refine norm_ (a' := ?_) ?_ ?_
      rotate_left
      ·show Act.put _ (some 85) _ = _
       simp only [Act.put, s1, s2, s3, q0d, q0e]
       rfl
      refine one_ (i := 7) (N := some 89) #[true, true, true, true, true, true, true, true, false, false] rfl rfl (one_of HT_.out (by kernel_rfl)) (by decide) (fun K hK => ?_)
      refine goes_ Tryd.func27 (by kernel_rfl) rfl #[.agg #[.slice Ao15 t291.length co15, .bool t294], .int .i64 a1, .int .i64 a2] (by rfl) rfl rfl (by (try simp only [List.map_toArray, List.map_cons, List.map_nil]); first | done | rfl | (simp only [List.length_drop, List.length_take]; rfl)) ?_
      with_reducible refine (clerestoryref1_WalkCommon.calls k1 _ _ t291 t294 a1 a2 t318 _ ?side1 ?side2 A50.out).mono ?_
      (case side1 => repeat (first | exact (Kd.V_reads' HO_291000.out).2.2 | (with_reducible refine cA ?_ _) | (with_reducible refine cN ?_ _) | (with_reducible refine cD ?_)))
      (case side2 => exact (Kd.V_reads' HO_291000.out).2.1)
      rintro e w53 ⟨rfl, hb⟩
      refine ⟨_, rfl, ?_⟩
      have n0_ := aS (Kd.R_below (by (with_reducible repeat (first | apply rA | apply rN | apply rD)); exact HO_66.out) hb)
      have n1_ := aS (Kd.V_below (by (with_reducible repeat (first | apply vA | apply vN | apply vD)); exact HO_291000.out) hb)
      have n2_ := aS (q08 (g := gb290) (o := .cells #[.slice Ao15 t291.length co15, .bool t294] 24 (0, 0)) (by (with_reducible repeat (first | refine kN ?_ _ | refine kD ?_ | refine kA ?_ _)); exact BK290.out) hb)
      have n3_ := aS (q03 (by repeat (first | (with_reducible first | exact HB.out | apply bA | apply bN | apply bD | refine bS ?_ GE290.out) | exact HB.out)) hb)
      clear HO_66
      clear HO_291000
      clear BK290
      clear HB
      have HO_66 := n0_
      have HO_291000 := n1_
      have BK290 := n2_
      have HB := n3_
      clear n0_ n1_ n2_ n3_
      (try clear hb)
      (try clear hb2)
      (try clear hk)
      (try clear hi)
      refine hK.out _ _ ⟨(q05 BK290.out 0).trans rfl, (q05 BK290.out 1).trans rfl⟩ (fun hHeld => ?_)
      clear hK K
      refine norm_ (a' := ?_) ?_ ?_
      rotate_left
      ·show Act.put _ (some 89) _ = _
       simp only [Act.put, s1, s2, s3, q0d, q0e]
       rfl
      refine q0o (i := 8) (N := some 18) (v := ?_) (a' := ?_) #[true, true, true, true, true, true, true, true, true, false] rfl rfl (q0i HT_.out (by kernel_rfl)) (fun _ _ _ h => h) (Or.inl ⟨by rfl, ?_⟩) ?_ ?_
      rotate_left
      ·intro w'
       go_simp
       with_reducible rfl
      rotate_left
      ·simp only [Act.put, s1, s2, s3, q0d, q0e]
       rfl
      refine q0o (i := 9) (N := some 19) (v := ?_) (a' := ?_) #[true, true, true, true, true, true, true, true, true, true] rfl rfl (q0i HT_.out (by kernel_rfl)) (fun _ _ _ h => h) (Or.inl ⟨by rfl, ?_⟩) ?_ ?_
      rotate_left
      ·intro w'
       go_simp
       with_reducible rfl
      rotate_left
      ·simp only [Act.put, s1, s2, s3, q0d, q0e]
       rfl
      refine done_ (done_of HT_.out (by kernel_rfl)) ?_
      try go_wp2
      go_meet
      case rel => exact ⟨_, (x17_1), (t317), (t318), (by first | rfl | (simp; done) | simp [*]), (by first | rfl | (simp; done) | simp [*]), (by first | rfl | (simp; done) | simp [*]), H', ⟨by have := HK1.out; first | omega | exact Nat.le_refl _⟩, ⟨by (with_reducible repeat (first | apply vA | apply vN | apply vD)); exact Kd.V_mono HO_291000.out (fun _ hk => hk.2)⟩, ⟨by (with_reducible repeat (first | refine kN ?_ _ | refine kD ?_ | refine kA ?_ _)); exact BK290.out⟩, ⟨by repeat (first | (with_reducible first | exact HB.out | apply bA | apply bN | apply bD | refine bS ?_ GE290.out) | exact HB.out)⟩⟩
  case n34 =>
   (first | rw [c34b0] | (simp only [q0d, q0e]; rw [c34b0]) | skip)
   have H' := aS H
   clear H
   go_wp2
   go_meet
   case rel => exact ⟨_, (false), (false), (0), (by first | rfl | (simp; done) | simp [*]), (by first | rfl | (simp; done) | simp [*]), (by first | rfl | (simp; done) | simp [*]), H', ⟨by first | omega | exact Nat.le_refl _⟩, ⟨by (with_reducible repeat (first | apply vA | apply vN | apply vD)); exact Kd.V_mono HO293.out (fun _ hk => by first | exact hk.2.2 | exact hk | exact ⟨hk.2, hk.1⟩ | exact hk.1 | exact hk.2)⟩, ⟨by (with_reducible repeat (first | refine kN ?_ _ | refine kD ?_ | refine kA ?_ _)); exact BK290.out⟩, ⟨by repeat (first | (with_reducible first | exact HB.out | apply bA | apply bN | apply bD | refine bS ?_ GE290.out) | exact HB.out)⟩⟩
 case rest =>
  clear HC11
  obtain ⟨kq, x17_10, x18_10, x19_10, rfl, rfl, rfl, HA, HJ10, HO_291000, BK290, HB⟩ := hcut
  cases kq with
  | zero => exact absurd HA.out (by simp [clerestorylaw1_WalkPairs.j1])
  | succ kj10 =>
   have H := HA.out
   clear HA
   simp only [clerestorylaw1_WalkPairs.j1] at H
   have HC54 := aS H
   clear H
   go_upto_region 16 with (fail)
   go_cut [95] (fun v95 wc => ∃ (kq : Nat) (x95_53 : Bool), v95 = .bool x95_53 ∧ Aside0 (clerestorylaw1_WalkPairs.j2 kq a1 t295 t296 t297 t298 t299 t300 t301 t302 t306 t310 x17_10 x18_10 x19_10 0 x95_53 t291 t294 = some r) ∧ Aside0 (kq ≤ kj10) ∧ Aside0 (Kd.V k43 43 wc w.heap.size (fun k_ => k_ ≠ gb290) (.slice Ao15 t291.length co15) t291) ∧ Aside0 (wc.heap[gb290]? = some (.cells #[(.slice Ao15 t291.length co15), .bool t294] 24 (0, 0))) ∧ Aside0 (Below w.heap.size w wc))
   case first =>
    have H := HC54.out
    clear HC54
    refine iE H ?p55 ?n55 <;> clear H
    case' p55 => intro c55b0 c55b1 H
    case' n55 => intro c55 c55b0 c55b1 H
    case p55|n55 =>
     (first | rw [c55b0] | (simp only [q0d, q0e]; rw [c55b0]) | skip)
     have H' := aS H
     clear H
     go_wp2
     go_meet
     case rel => exact ⟨_, _, (by first | rfl | (simp; done) | simp [*]), H', ⟨by have := HJ10.out; first | omega | exact Nat.le_refl _⟩, ⟨by (with_reducible repeat (first | apply vA | apply vN | apply vD)); exact HO_291000.out⟩, ⟨by (with_reducible repeat (first | refine kN ?_ _ | refine kD ?_ | refine kA ?_ _)); exact BK290.out⟩, ⟨by repeat (first | (with_reducible first | exact HB.out | apply bA | apply bN | apply bD | refine bS ?_ GE290.out) | exact HB.out)⟩⟩
   case rest =>
    clear HC54
    obtain ⟨kq, x95_53, rfl, HA, HJ53, HO_291000, BK290, HB⟩ := hcut
    cases kq with
    | zero => exact absurd HA.out (by simp [clerestorylaw1_WalkPairs.j2])
    | succ kj53 =>
     have H := HA.out
     clear HA
     simp only [clerestorylaw1_WalkPairs.j2] at H
     refine iV H ?p56 ?n56 <;> clear H
     case' p56 => intro c56 H; subst c56; refine iLp H ?_; clear H; intro c57b0 H; refine iTp H ?_; clear H; intro c58b0 H; refine iLp H ?_; clear H; intro c59b0 H; refine iTp H ?_; clear H; intro c60b0 H
     case' n56 => intro c56 H; subst c56; replace H := iB H; obtain ⟨t323, A84, H⟩ := H; refine iV H ?p85 ?n85 <;> clear H
     case' p85 => intro c85 H; subst c85; refine iG H ?p86 ?n86 <;> clear H
     case' p86 => intro c86 H; have c86b0 : (t295 == x17_10) = true := c86; (try (have c86b1 : decide (t295 = x17_10) = true := by simpa using c86)); (try (have c86b2 : (t295 == x17_10) = true := by simpa using c86)); clear c86; refine iE H ?p87 ?n87 <;> clear H
     case' p87 => intro c87b0 c87b1 H; refine iG H ?p88 ?n88 <;> clear H
     case' p88 => intro c88 H; have c88b0 : (t297 == x18_10) = true := c88; (try (have c88b1 : decide (t297 = x18_10) = true := by simpa using c88)); (try (have c88b2 : (t297 == x18_10) = true := by simpa using c88)); clear c88; refine iE H ?p89 ?n89 <;> clear H
     case' p89 => intro c89b0 c89b1 H; refine iE H ?p90 ?n90 <;> clear H
     case' p90 => intro c90b0 c90b1 H; refine iE H ?p91 ?n91 <;> clear H
     case' p91 => intro c91b0 c91b1 H; refine iE H ?p92 ?n92 <;> clear H
     case' p92 => intro c92b0 c92b1 H
     case' n92 => intro c92 c92b0 c92b1 H
     case' n91 => intro c91 c91b0 c91b1 H
     case' n90 => intro c90 c90b0 c90b1 H
     case' n89 => intro c89 c89b0 c89b1 H
     case' n88 => intro c88 H; have c88b0 : (t297 == x18_10) = false := by simpa using c88
     case' n87 => intro c87 c87b0 c87b1 H
     case' n86 => intro c86 H; have c86b0 : (t295 == x17_10) = false := by simpa using c86
     case' n85 => intro c85 H; subst c85
     case p56 =>
      have H' := aS H
      clear H
      try go_wp2
      have n0_ := aS (Kd.V_drew HO_291000.out)
      have n1_ := aS (q1e BK290.out)
      have n2_ := aS (q0s HB.out)
      clear HO_291000
      clear BK290
      clear HB
      have HO_291000 := n0_
      have BK290 := n1_
      have HB := n2_
      clear n0_ n1_ n2_
      have p319 : 0 ≤ (a1 : Int) := od (by first | (with_reducible assumption) | assumption)
      have q319 : a1 < (t291.length : Int) := od (by first | (with_reducible assumption) | assumption)
      obtain ⟨ad319, A319_2, c319_2, A319_5, c319_5, e319, hx319_0, hx319_1, hx319_2, hx319_3, hx319_4, hx319_5, hl319_2, hi319_2, hl319_5, hi319_5⟩ := at_T43 (Kd.V_reads' HO_291000.out).2.2 a1 p319 q319
      cases e319
      obtain ⟨ce319, hce319, hMe319, hcc319⟩ := Kd.V_get HO_291000.out z43 a1 p319 (by first | exact q319 | exact od (by first | (with_reducible assumption) | assumption) | (have e_ := (Kd.V_reads' HO_291000.out).1; omega))
      obtain ⟨ua319_2, uc319_2, ua319_5, uc319_5, rfl, ul319_2, ge319_2, ul319_5, ge319_5⟩ := k43_openF hMe319
      have hv319_2 := hcc319 2 _ rfl
      rw [q1f _ _ 2 (by omega)] at hv319_2
      replace hv319_2 := Option.some.inj (hv319_2.symm.trans hx319_2)
      injection hv319_2 with hva_ hvn_ hvc_
      rw [hva_] at ge319_2
      rw [hvc_] at ul319_2
      have HL319_2 := aS (show Kd.V k122 122 _ w.heap.size _ _ ((q00 t291 a1).f2) from Kd.V_mk ul319_2 ge319_2)
      clear hva_ hvn_ hvc_ ge319_2 ul319_2
      have hv319_5 := hcc319 5 _ rfl
      rw [q1f _ _ 5 (by omega)] at hv319_5
      replace hv319_5 := Option.some.inj (hv319_5.symm.trans hx319_5)
      injection hv319_5 with hva_ hvn_ hvc_
      rw [hva_] at ge319_5
      rw [hvc_] at ul319_5
      have HL319_5 := aS (show Kd.V (Kd.int .i64) 3 _ w.heap.size _ _ ((q00 t291 a1).f5) from Kd.V_mk ul319_5 ge319_5)
      clear hva_ hvn_ hvc_ ge319_5 ul319_5
      clear hcc319 hce319
      have HR319_2 := aS hi319_2
      have HC319_2 := aS hl319_2
      clear hi319_2 hl319_2
      have HR319_5 := aS hi319_5
      have HC319_5 := aS hl319_5
      clear hi319_5 hl319_5
      replace p319 := eq_true p319
      replace q319 := eq_true q319
      have p320 : 0 ≤ (((q00 t291 a1).f4) : Int) := od (by first | (with_reducible assumption) | assumption)
      have q320 : ((q00 t291 a1).f4) < (t291.length : Int) := od (by first | (with_reducible assumption) | assumption)
      obtain ⟨ad320, A320_2, c320_2, A320_5, c320_5, e320, hx320_0, hx320_1, hx320_2, hx320_3, hx320_4, hx320_5, hl320_2, hi320_2, hl320_5, hi320_5⟩ := at_T43 (Kd.V_reads' HO_291000.out).2.2 ((q00 t291 a1).f4) p320 q320
      obtain rfl : ad319 = ad320 := (by injection e320)
      obtain ⟨ce320, hce320, hMe320, hcc320⟩ := Kd.V_get HO_291000.out z43 ((q00 t291 a1).f4) p320 (by first | exact q320 | exact od (by first | (with_reducible assumption) | assumption) | (have e_ := (Kd.V_reads' HO_291000.out).1; omega))
      obtain ⟨ua320_2, uc320_2, ua320_5, uc320_5, rfl, ul320_2, ge320_2, ul320_5, ge320_5⟩ := k43_openF hMe320
      have hv320_2 := hcc320 2 _ rfl
      rw [q1f _ _ 2 (by omega)] at hv320_2
      replace hv320_2 := Option.some.inj (hv320_2.symm.trans hx320_2)
      injection hv320_2 with hva_ hvn_ hvc_
      rw [hva_] at ge320_2
      rw [hvc_] at ul320_2
      have HL320_2 := aS (show Kd.V k122 122 _ w.heap.size _ _ ((q00 t291 ((q00 t291 a1).f4)).f2) from Kd.V_mk ul320_2 ge320_2)
      clear hva_ hvn_ hvc_ ge320_2 ul320_2
      have hv320_5 := hcc320 5 _ rfl
      rw [q1f _ _ 5 (by omega)] at hv320_5
      replace hv320_5 := Option.some.inj (hv320_5.symm.trans hx320_5)
      injection hv320_5 with hva_ hvn_ hvc_
      rw [hva_] at ge320_5
      rw [hvc_] at ul320_5
      have HL320_5 := aS (show Kd.V (Kd.int .i64) 3 _ w.heap.size _ _ ((q00 t291 ((q00 t291 a1).f4)).f5) from Kd.V_mk ul320_5 ge320_5)
      clear hva_ hvn_ hvc_ ge320_5 ul320_5
      clear hcc320 hce320
      have HR320_2 := aS hi320_2
      have HC320_2 := aS hl320_2
      clear hi320_2 hl320_2
      have HR320_5 := aS hi320_5
      have HC320_5 := aS hl320_5
      clear hi320_5 hl320_5
      replace p320 := eq_true p320
      replace q320 := eq_true q320
      refine start_ (n := 13) (S := fun w' => w'.cell? ⟨gb290, 0, none⟩ = some (.slice (some ad319) t291.length co15) ∧ w'.cell? ⟨gb290, 1, none⟩ = some (.bool t294) ∧ w'.cell? (ad319.add ((a1).toNat * 6)) = some (.int .i64 ((q00 t291 a1).f0)) ∧ w'.cell? ⟨(ad319.add ((a1).toNat * 6)).block, (ad319.add ((a1).toNat * 6)).off + 1, none⟩ = some (.string ((q00 t291 a1).f1)) ∧ w'.cell? ⟨(ad319.add ((a1).toNat * 6)).block, (ad319.add ((a1).toNat * 6)).off + 2, none⟩ = some (.slice A319_2 ((q00 t291 a1).f2).length c319_2) ∧ w'.cell? ⟨(ad319.add ((a1).toNat * 6)).block, (ad319.add ((a1).toNat * 6)).off + 3, none⟩ = some (.string ((q00 t291 a1).f3)) ∧ w'.cell? ⟨(ad319.add ((a1).toNat * 6)).block, (ad319.add ((a1).toNat * 6)).off + 4, none⟩ = some (.int .i64 ((q00 t291 a1).f4)) ∧ w'.cell? ⟨(ad319.add ((a1).toNat * 6)).block, (ad319.add ((a1).toNat * 6)).off + 5, none⟩ = some (.slice A319_5 ((q00 t291 a1).f5).length c319_5) ∧ w'.cell? (ad319.add ((((q00 t291 a1).f4)).toNat * 6)) = some (.int .i64 ((q00 t291 ((q00 t291 a1).f4)).f0)) ∧ w'.cell? ⟨(ad319.add ((((q00 t291 a1).f4)).toNat * 6)).block, (ad319.add ((((q00 t291 a1).f4)).toNat * 6)).off + 1, none⟩ = some (.string ((q00 t291 ((q00 t291 a1).f4)).f1)) ∧ w'.cell? ⟨(ad319.add ((((q00 t291 a1).f4)).toNat * 6)).block, (ad319.add ((((q00 t291 a1).f4)).toNat * 6)).off + 2, none⟩ = some (.slice A320_2 ((q00 t291 ((q00 t291 a1).f4)).f2).length c320_2) ∧ w'.cell? ⟨(ad319.add ((((q00 t291 a1).f4)).toNat * 6)).block, (ad319.add ((((q00 t291 a1).f4)).toNat * 6)).off + 3, none⟩ = some (.string ((q00 t291 ((q00 t291 a1).f4)).f3)) ∧ w'.cell? ⟨(ad319.add ((((q00 t291 a1).f4)).toNat * 6)).block, (ad319.add ((((q00 t291 a1).f4)).toNat * 6)).off + 4, none⟩ = some (.int .i64 ((q00 t291 ((q00 t291 a1).f4)).f4)) ∧ w'.cell? ⟨(ad319.add ((((q00 t291 a1).f4)).toNat * 6)).block, (ad319.add ((((q00 t291 a1).f4)).toNat * 6)).off + 5, none⟩ = some (.slice A320_5 ((q00 t291 ((q00 t291 a1).f4)).f5).length c320_5)) (ds := []) #[false, false, false, false, false, false, false, false, false, false, false, false, false] (by kernel_rfl) rfl rfl ⟨(q05 BK290.out 0).trans rfl, (q05 BK290.out 1).trans rfl, hx319_0, hx319_1, hx319_2, hx319_3, hx319_4, hx319_5, hx320_0, hx320_1, hx320_2, hx320_3, hx320_4, hx320_5⟩ (fun hHeld => ?_); refine q1c clerestorylaw1_WalkPairs.tab17 clerestorylaw1_WalkPairs.bits17 (fun HT_ HW_ => ?_)
      generalize wc.drew = w61 at HO_291000 BK290 HB HL319_2 HL319_5 HL320_2 HL320_5 HR319_2 HR319_5 HR320_2 HR320_5 hx319_0 hx319_1 hx319_2 hx319_3 hx319_4 hx319_5 hx320_0 hx320_1 hx320_2 hx320_3 hx320_4 hx320_5 hHeld ⊢
      refine q0o (i := 0) (N := some 96) (v := ?_) (a' := ?_) #[true, false, false, false, false, false, false, false, false, false, false, false, false] rfl rfl (q0i HT_.out (by kernel_rfl)) (fun _ _ _ h => h) (Or.inl ⟨by rfl, ?_⟩) ?_ ?_
      rotate_left
      ·intro w'
       go_simp
       with_reducible rfl
      rotate_left
      ·simp only [Act.put, s1, s2, s3, q0d, q0e]
       rfl
      refine q0o (i := 2) (N := some 98) (v := ?_) (a' := ?_) #[true, false, true, false, false, false, false, false, false, false, false, false, false] rfl rfl (q0i HT_.out (by kernel_rfl)) (fun _ _ _ h => h) (Or.inl ⟨by rfl, ?_⟩) ?_ ?_
      rotate_left
      ·intro w'
       go_simp
       with_reducible rfl
      rotate_left
      ·simp only [Act.put, s1, s2, s3, q0d, q0e]
       rfl
      refine q0o (i := 4) (N := some 100) (v := ?_) (a' := ?_) #[true, false, true, false, true, false, false, false, false, false, false, false, false] rfl rfl (q0i HT_.out (by kernel_rfl)) (fun _ _ _ h => h) (Or.inl ⟨by rfl, ?_⟩) ?_ ?_
      rotate_left
      ·intro w'
       go_simp
       with_reducible rfl
      rotate_left
      ·simp only [Act.put, s1, s2, s3, q0d, q0e]
       rfl
      refine q0o (i := 12) (N := some 108) (v := ?_) (a' := ?_) #[true, false, true, false, true, false, false, false, false, false, false, false, true] rfl rfl (q0i HT_.out (by kernel_rfl)) (fun _ _ _ h => h) (Or.inl ⟨by rfl, ?_⟩) ?_ ?_
      rotate_left
      ·intro w'
       go_simp
       with_reducible rfl
      rotate_left
      ·simp only [Act.put, s1, s2, s3, q0d, q0e]
       rfl
      refine take_ (i := 1) (N := some 97) (v := ?_) (a' := ?_) #[true, true, true, false, true, false, false, false, false, false, false, false, true] rfl rfl (q0r HT_.out HW_.out (by kernel_rfl)) (fun _ _ _ h => h) (Or.inl ⟨by rfl, ?_⟩) hHeld ?_ ?_
      rotate_left
      ·rintro w' ⟨s0, s1, s2, s3, s4, s5, s6, s7, s8, s9, s10, s11, s12, s13⟩
       go_simp
       with_reducible rfl
      rotate_left
      ·simp only [Act.put, s1, s2, s3, q0d, q0e]
       rfl
      refine take_ (i := 3) (N := some 99) (v := ?_) (a' := ?_) #[true, true, true, true, true, false, false, false, false, false, false, false, true] rfl rfl (q0r HT_.out HW_.out (by kernel_rfl)) (fun _ _ _ h => h) (Or.inl ⟨by rfl, ?_⟩) hHeld ?_ ?_
      rotate_left
      ·rintro w' ⟨s0, s1, s2, s3, s4, s5, s6, s7, s8, s9, s10, s11, s12, s13⟩
       go_simp
       with_reducible rfl
      rotate_left
      ·simp only [Act.put, s1, s2, s3, q0d, q0e]
       rfl
      refine q0o (i := 5) (N := some 101) (v := ?_) (a' := ?_) #[true, true, true, true, true, true, false, false, false, false, false, false, true] rfl rfl (q0i HT_.out (by kernel_rfl)) (fun _ _ _ h => h) (Or.inl ⟨by rfl, ?_⟩) ?_ ?_
      rotate_left
      ·intro w'
       go_simp
       with_reducible rfl
      rotate_left
      ·simp only [Act.put, s1, s2, s3, q0d, q0e]
       rfl
      refine q0o (i := 6) (N := some 102) (v := ?_) (a' := ?_) #[true, true, true, true, true, true, true, false, false, false, false, false, true] rfl rfl (q0i HT_.out (by kernel_rfl)) (fun _ _ _ h => h) (Or.inl ⟨by rfl, ?_⟩) ?_ ?_
      rotate_left
      ·intro w'
       go_simp
       with_reducible rfl
      rotate_left
      ·simp only [Act.put, s1, s2, s3, q0d, q0e]
       rfl
      refine take_ (i := 7) (N := some 103) (v := ?_) (a' := ?_) #[true, true, true, true, true, true, true, true, false, false, false, false, true] rfl rfl (q0r HT_.out HW_.out (by kernel_rfl)) (fun _ _ _ h => h) (Or.inl ⟨by rfl, ?_⟩) hHeld ?_ ?_
      rotate_left
      ·rintro w' ⟨s0, s1, s2, s3, s4, s5, s6, s7, s8, s9, s10, s11, s12, s13⟩
       go_simp
       with_reducible rfl
      rotate_left
      ·simp only [Act.put, s1, s2, s3, q0d, q0e]
       rfl
      refine q0o (i := 8) (N := some 104) (v := ?_) (a' := ?_) #[true, true, true, true, true, true, true, true, true, false, false, false, true] rfl rfl (q0i HT_.out (by kernel_rfl)) (fun _ _ _ h => h) (Or.inl ⟨by rfl, ?_⟩) ?_ ?_
      rotate_left
      ·intro w'
       go_simp
       with_reducible rfl
      rotate_left
      ·simp only [Act.put, s1, s2, s3, q0d, q0e]
       rfl
      refine q0o (i := 9) (N := some 105) (v := ?_) (a' := ?_) #[true, true, true, true, true, true, true, true, true, true, false, false, true] rfl rfl (q0i HT_.out (by kernel_rfl)) (fun _ _ _ h => h) (Or.inl ⟨by rfl, ?_⟩) ?_ ?_
      rotate_left
      ·intro w'
       go_simp
       with_reducible rfl
      rotate_left
      ·simp only [Act.put, s1, s2, s3, q0d, q0e]
       rfl
      refine take_ (i := 10) (N := some 106) (v := ?_) (a' := ?_) #[true, true, true, true, true, true, true, true, true, true, true, false, true] rfl rfl (q0r HT_.out HW_.out (by kernel_rfl)) (fun _ _ _ h => h) (Or.inl ⟨by rfl, ?_⟩) hHeld ?_ ?_
      rotate_left
      ·rintro w' ⟨s0, s1, s2, s3, s4, s5, s6, s7, s8, s9, s10, s11, s12, s13⟩
       go_simp
       with_reducible rfl
      rotate_left
      ·simp only [Act.put, s1, s2, s3, q0d, q0e]
       rfl
      refine q0o (i := 11) (N := some 107) (v := ?_) (a' := ?_) #[true, true, true, true, true, true, true, true, true, true, true, true, true] rfl rfl (q0i HT_.out (by kernel_rfl)) (fun _ _ _ h => h) (Or.inl ⟨by rfl, ?_⟩) ?_ ?_
      rotate_left
      ·intro w'
       go_simp
       with_reducible rfl
      rotate_left
      ·simp only [Act.put, s1, s2, s3, q0d, q0e]
       rfl
      refine done_ (done_of HT_.out (by kernel_rfl)) ?_
      try go_wp2
      go_loopg [20, 108] kj53 (fun kq v20 v108 w' => ∃ (x20_3 : Int) (x108_3 : Int), v20 = .int .i64 x20_3 ∧ v108 = .int .i64 x108_3 ∧ Aside0 (clerestorylaw1_WalkPairs.l1 kq a1 t295 t296 t297 t298 t299 t300 t301 t302 t306 t310 x17_10 x18_10 x19_10 x20_3 ((q00 t291 ((q00 t291 a1).f4)).f5) (((q00 t291 ((q00 t291 a1).f4)).f5).length : Int) x108_3 = some r) ∧ Aside0 (kq ≤ kj53) ∧ Aside0 (Kd.V k43 43 w' w.heap.size (fun k_ => k_ ≠ gb290) (.slice (some ad319) t291.length co15) t291) ∧ Aside0 (w'.heap[gb290]? = some (.cells #[(.slice (some ad319) t291.length co15), .bool t294] 24 (0, 0))) ∧ Aside0 (Kd.C k122 w' A319_2 ((q00 t291 a1).f2).length ((q00 t291 a1).f2)) ∧ Aside0 (Kd.C (Kd.int .i64) w' A319_5 ((q00 t291 a1).f5).length ((q00 t291 a1).f5)) ∧ Aside0 (Kd.C k122 w' A320_2 ((q00 t291 ((q00 t291 a1).f4)).f2).length ((q00 t291 ((q00 t291 a1).f4)).f2)) ∧ Aside0 (Kd.C (Kd.int .i64) w' A320_5 ((q00 t291 ((q00 t291 a1).f4)).f5).length ((q00 t291 ((q00 t291 a1).f4)).f5)) ∧ Aside0 (Below w.heap.size w w'))
      case atStart => exact ⟨(0), (0), (by first | rfl | (simp; done) | simp [*]), (by first | rfl | (simp; done) | simp [*]), H', ⟨Nat.le_refl _⟩, ⟨by (with_reducible repeat (first | apply vA | apply vN | apply vD)); exact HO_291000.out⟩, ⟨by (with_reducible repeat (first | refine kN ?_ _ | refine kD ?_ | refine kA ?_ _)); exact BK290.out⟩, ⟨by repeat (first | (with_reducible exact HR319_2.out) | (with_reducible refine cA ?_ _) | (with_reducible refine cN ?_ _) | (with_reducible refine cD ?_) | exact HR319_2.out)⟩, ⟨by repeat (first | (with_reducible exact HR319_5.out) | (with_reducible refine cA ?_ _) | (with_reducible refine cN ?_ _) | (with_reducible refine cD ?_) | exact HR319_5.out)⟩, ⟨by repeat (first | (with_reducible exact HR320_2.out) | (with_reducible refine cA ?_ _) | (with_reducible refine cN ?_ _) | (with_reducible refine cD ?_) | exact HR320_2.out)⟩, ⟨by repeat (first | (with_reducible exact HR320_5.out) | (with_reducible refine cA ?_ _) | (with_reducible refine cN ?_ _) | (with_reducible refine cD ?_) | exact HR320_5.out)⟩, ⟨by repeat (first | (with_reducible first | exact HB.out | apply bA | apply bN | apply bD | refine bS ?_ GE290.out) | exact HB.out)⟩⟩
      case round =>
       clear H'
       obtain ⟨x20_3, x108_3, rfl, rfl, HA, HK3, HO_291000, BK290, HR319_2, HR319_5, HR320_2, HR320_5, HB⟩ := hrel
       cases gk with
       | zero => exact absurd HA.out (by simp [clerestorylaw1_WalkPairs.l1])
       | succ k3 =>
        have H := HA.out
        clear HA
        simp only [clerestorylaw1_WalkPairs.l1] at H
        refine iT H ?p62 ?n62 <;> clear H
        case' p62 =>
         intro c62b0 H
         refine iLp H ?_; clear H; intro c63b0 H
         refine iTp H ?_; clear H; intro c64b0 H
         have p321 : 0 ≤ (x108_3 : Int) := od (by first | (with_reducible assumption) | assumption)
         have q321 : x108_3 < (((q00 t291 ((q00 t291 a1).f4)).f5).length : Int) := od (by first | (with_reducible assumption) | assumption)
         obtain ⟨ad321, e321, hx321_0⟩ := Kd.at_int HR320_5.out x108_3 p321 q321
         cases e321
         refine iE H ?p65 ?n65 <;> clear H
        case' p65 => intro c65b0 c65b1 H
        case' n65 => intro c65 c65b0 c65b1 H
        case' n62 => intro c62b0 H; replace H := iB H; obtain ⟨t322, A66, H⟩ := H; refine iV H ?p67 ?n67 <;> clear H
        case' p67 => intro c67 H; subst c67; refine iG H ?p68 ?n68 <;> clear H
        case' p68 => intro c68 H; have c68b0 : (t295 == x17_10) = true := c68; (try (have c68b1 : decide (t295 = x17_10) = true := by simpa using c68)); (try (have c68b2 : (t295 == x17_10) = true := by simpa using c68)); clear c68; refine iE H ?p69 ?n69 <;> clear H
        case' p69 => intro c69b0 c69b1 H; refine iG H ?p70 ?n70 <;> clear H
        case' p70 => intro c70 H; have c70b0 : (t297 == x18_10) = true := c70; (try (have c70b1 : decide (t297 = x18_10) = true := by simpa using c70)); (try (have c70b2 : (t297 == x18_10) = true := by simpa using c70)); clear c70; refine iE H ?p71 ?n71 <;> clear H
        case' p71 => intro c71b0 c71b1 H; refine iE H ?p72 ?n72 <;> clear H
        case' p72 => intro c72b0 c72b1 H; refine iE H ?p73 ?n73 <;> clear H
        case' p73 => intro c73b0 c73b1 H; refine iE H ?p74 ?n74 <;> clear H
        case' p74 => intro c74b0 c74b1 H
        case' n74 => intro c74 c74b0 c74b1 H
        case' n73 => intro c73 c73b0 c73b1 H
        case' n72 => intro c72 c72b0 c72b1 H
        case' n71 => intro c71 c71b0 c71b1 H
        case' n70 => intro c70 H; have c70b0 : (t297 == x18_10) = false := by simpa using c70
        case' n69 => intro c69 c69b0 c69b1 H
        case' n68 => intro c68 H; have c68b0 : (t295 == x17_10) = false := by simpa using c68
        case' n67 => intro c67 H; subst c67
        case p65 =>
         have H' := aS H
         clear H
         try replace hx321_0 := q09 HB.out hx321_0
         replace p321 := eq_true p321
         replace q321 := eq_true q321
         go_wp2
         go_roundg k3
         case measure => have := HJ10.out; have := HJ53.out; have := HK3.out; omega
         case rel => exact ⟨(x108_3), (wrap64 (x108_3 + 1)), (by first | rfl | (simp; done) | simp [*]), (by first | rfl | (simp; done) | simp [*]), H', ⟨by have := HJ10.out; have := HJ53.out; have := HK3.out; omega⟩, ⟨by (with_reducible repeat (first | apply vA | apply vN | apply vD)); exact HO_291000.out⟩, ⟨by (with_reducible repeat (first | refine kN ?_ _ | refine kD ?_ | refine kA ?_ _)); exact BK290.out⟩, ⟨by repeat (first | (with_reducible exact HR319_2.out) | (with_reducible refine cA ?_ _) | (with_reducible refine cN ?_ _) | (with_reducible refine cD ?_) | exact HR319_2.out)⟩, ⟨by repeat (first | (with_reducible exact HR319_5.out) | (with_reducible refine cA ?_ _) | (with_reducible refine cN ?_ _) | (with_reducible refine cD ?_) | exact HR319_5.out)⟩, ⟨by repeat (first | (with_reducible exact HR320_2.out) | (with_reducible refine cA ?_ _) | (with_reducible refine cN ?_ _) | (with_reducible refine cD ?_) | exact HR320_2.out)⟩, ⟨by repeat (first | (with_reducible exact HR320_5.out) | (with_reducible refine cA ?_ _) | (with_reducible refine cN ?_ _) | (with_reducible refine cD ?_) | exact HR320_5.out)⟩, ⟨by repeat (first | (with_reducible first | exact HB.out | apply bA | apply bN | apply bD | refine bS ?_ GE290.out) | exact HB.out)⟩⟩
        case n65 =>
         have H' := aS H
         clear H
         try replace hx321_0 := q09 HB.out hx321_0
         replace p321 := eq_true p321
         replace q321 := eq_true q321
         go_wp2
         go_roundg k3
         case measure => have := HJ10.out; have := HJ53.out; have := HK3.out; omega
         case rel => exact ⟨(x20_3), (wrap64 (x108_3 + 1)), (by first | rfl | (simp; done) | simp [*]), (by first | rfl | (simp; done) | simp [*]), H', ⟨by have := HJ10.out; have := HJ53.out; have := HK3.out; omega⟩, ⟨by (with_reducible repeat (first | apply vA | apply vN | apply vD)); exact HO_291000.out⟩, ⟨by (with_reducible repeat (first | refine kN ?_ _ | refine kD ?_ | refine kA ?_ _)); exact BK290.out⟩, ⟨by repeat (first | (with_reducible exact HR319_2.out) | (with_reducible refine cA ?_ _) | (with_reducible refine cN ?_ _) | (with_reducible refine cD ?_) | exact HR319_2.out)⟩, ⟨by repeat (first | (with_reducible exact HR319_5.out) | (with_reducible refine cA ?_ _) | (with_reducible refine cN ?_ _) | (with_reducible refine cD ?_) | exact HR319_5.out)⟩, ⟨by repeat (first | (with_reducible exact HR320_2.out) | (with_reducible refine cA ?_ _) | (with_reducible refine cN ?_ _) | (with_reducible refine cD ?_) | exact HR320_2.out)⟩, ⟨by repeat (first | (with_reducible exact HR320_5.out) | (with_reducible refine cA ?_ _) | (with_reducible refine cN ?_ _) | (with_reducible refine cD ?_) | exact HR320_5.out)⟩, ⟨by repeat (first | (with_reducible first | exact HB.out | apply bA | apply bN | apply bD | refine bS ?_ GE290.out) | exact HB.out)⟩⟩
        case p74 =>
         obtain rfl := Option.some.inj H
         go_wp2_with (first | ((with_reducible refine q06 (f := 20) rfl ?_); refine q0k (some 118) rfl rfl Tryd.func20 (by kernel_rfl) rfl #[] rfl (by (try simp only [List.map_toArray, List.map_cons, List.map_nil]); first | done | rfl | (simp only [List.length_drop, List.length_take]; rfl)) ?_; (with_reducible refine (clerestorylaw1_walkBegun.calls k3  true _ A66.out).mono ?_); rintro e w75 ⟨rfl, hb⟩; refine ⟨_, rfl, ?_⟩; replace HO_291000 := aS (Kd.V_below (by (with_reducible repeat (first | apply vA | apply vN | apply vD)); exact HO_291000.out) hb); replace BK290 := aS (q08 (g := gb290) (o := .cells #[.slice (some ad319) t291.length co15, .bool t294] 24 (0, 0)) (by (with_reducible repeat (first | refine kN ?_ _ | refine kD ?_ | refine kA ?_ _)); exact BK290.out) hb); replace HR319_2 := aS (Kd.C_below (by repeat (first | (with_reducible exact HR319_2.out) | (with_reducible refine cA ?_ _) | (with_reducible refine cN ?_ _) | (with_reducible refine cD ?_) | exact HR319_2.out)) hb); replace HR319_5 := aS (Kd.C_below (by repeat (first | (with_reducible exact HR319_5.out) | (with_reducible refine cA ?_ _) | (with_reducible refine cN ?_ _) | (with_reducible refine cD ?_) | exact HR319_5.out)) hb); replace HR320_2 := aS (Kd.C_below (by repeat (first | (with_reducible exact HR320_2.out) | (with_reducible refine cA ?_ _) | (with_reducible refine cN ?_ _) | (with_reducible refine cD ?_) | exact HR320_2.out)) hb); replace HR320_5 := aS (Kd.C_below (by repeat (first | (with_reducible exact HR320_5.out) | (with_reducible refine cA ?_ _) | (with_reducible refine cN ?_ _) | (with_reducible refine cD ?_) | exact HR320_5.out)) hb); replace HB := aS (q03 (by repeat (first | (with_reducible first | exact HB.out | apply bA | apply bN | apply bD | refine bS ?_ GE290.out) | exact HB.out)) hb); (try clear hb); (try clear hb2); (try clear hk); (try clear hi)))
         go_ret
         exact ⟨by first | rfl | (simp [q02, q01] <;> rfl) | (simp [*, q02, q01] <;> rfl), by repeat (first | (with_reducible first | exact HB.out | apply bA | apply bN | apply bD | refine bS ?_ GE290.out) | exact HB.out)⟩
        case n74 =>
         obtain rfl := Option.some.inj H
         go_wp2_with (first | ((with_reducible refine q06 (f := 20) rfl ?_); refine q0k (some 118) rfl rfl Tryd.func20 (by kernel_rfl) rfl #[] rfl (by (try simp only [List.map_toArray, List.map_cons, List.map_nil]); first | done | rfl | (simp only [List.length_drop, List.length_take]; rfl)) ?_; (with_reducible refine (clerestorylaw1_walkBegun.calls k3  true _ A66.out).mono ?_); rintro e w76 ⟨rfl, hb⟩; refine ⟨_, rfl, ?_⟩; replace HO_291000 := aS (Kd.V_below (by (with_reducible repeat (first | apply vA | apply vN | apply vD)); exact HO_291000.out) hb); replace BK290 := aS (q08 (g := gb290) (o := .cells #[.slice (some ad319) t291.length co15, .bool t294] 24 (0, 0)) (by (with_reducible repeat (first | refine kN ?_ _ | refine kD ?_ | refine kA ?_ _)); exact BK290.out) hb); replace HR319_2 := aS (Kd.C_below (by repeat (first | (with_reducible exact HR319_2.out) | (with_reducible refine cA ?_ _) | (with_reducible refine cN ?_ _) | (with_reducible refine cD ?_) | exact HR319_2.out)) hb); replace HR319_5 := aS (Kd.C_below (by repeat (first | (with_reducible exact HR319_5.out) | (with_reducible refine cA ?_ _) | (with_reducible refine cN ?_ _) | (with_reducible refine cD ?_) | exact HR319_5.out)) hb); replace HR320_2 := aS (Kd.C_below (by repeat (first | (with_reducible exact HR320_2.out) | (with_reducible refine cA ?_ _) | (with_reducible refine cN ?_ _) | (with_reducible refine cD ?_) | exact HR320_2.out)) hb); replace HR320_5 := aS (Kd.C_below (by repeat (first | (with_reducible exact HR320_5.out) | (with_reducible refine cA ?_ _) | (with_reducible refine cN ?_ _) | (with_reducible refine cD ?_) | exact HR320_5.out)) hb); replace HB := aS (q03 (by repeat (first | (with_reducible first | exact HB.out | apply bA | apply bN | apply bD | refine bS ?_ GE290.out) | exact HB.out)) hb); (try clear hb); (try clear hb2); (try clear hk); (try clear hi)))
         go_ret
         exact ⟨by first | rfl | (simp [q02, q01] <;> rfl) | (simp [*, q02, q01] <;> rfl), by repeat (first | (with_reducible first | exact HB.out | apply bA | apply bN | apply bD | refine bS ?_ GE290.out) | exact HB.out)⟩
        case n73 =>
         obtain rfl := Option.some.inj H
         go_wp2_with (first | ((with_reducible refine q06 (f := 20) rfl ?_); refine q0k (some 118) rfl rfl Tryd.func20 (by kernel_rfl) rfl #[] rfl (by (try simp only [List.map_toArray, List.map_cons, List.map_nil]); first | done | rfl | (simp only [List.length_drop, List.length_take]; rfl)) ?_; (with_reducible refine (clerestorylaw1_walkBegun.calls k3  true _ A66.out).mono ?_); rintro e w77 ⟨rfl, hb⟩; refine ⟨_, rfl, ?_⟩; replace HO_291000 := aS (Kd.V_below (by (with_reducible repeat (first | apply vA | apply vN | apply vD)); exact HO_291000.out) hb); replace BK290 := aS (q08 (g := gb290) (o := .cells #[.slice (some ad319) t291.length co15, .bool t294] 24 (0, 0)) (by (with_reducible repeat (first | refine kN ?_ _ | refine kD ?_ | refine kA ?_ _)); exact BK290.out) hb); replace HR319_2 := aS (Kd.C_below (by repeat (first | (with_reducible exact HR319_2.out) | (with_reducible refine cA ?_ _) | (with_reducible refine cN ?_ _) | (with_reducible refine cD ?_) | exact HR319_2.out)) hb); replace HR319_5 := aS (Kd.C_below (by repeat (first | (with_reducible exact HR319_5.out) | (with_reducible refine cA ?_ _) | (with_reducible refine cN ?_ _) | (with_reducible refine cD ?_) | exact HR319_5.out)) hb); replace HR320_2 := aS (Kd.C_below (by repeat (first | (with_reducible exact HR320_2.out) | (with_reducible refine cA ?_ _) | (with_reducible refine cN ?_ _) | (with_reducible refine cD ?_) | exact HR320_2.out)) hb); replace HR320_5 := aS (Kd.C_below (by repeat (first | (with_reducible exact HR320_5.out) | (with_reducible refine cA ?_ _) | (with_reducible refine cN ?_ _) | (with_reducible refine cD ?_) | exact HR320_5.out)) hb); replace HB := aS (q03 (by repeat (first | (with_reducible first | exact HB.out | apply bA | apply bN | apply bD | refine bS ?_ GE290.out) | exact HB.out)) hb); (try clear hb); (try clear hb2); (try clear hk); (try clear hi)))
         go_ret
         exact ⟨by first | rfl | (simp [q02, q01] <;> rfl) | (simp [*, q02, q01] <;> rfl), by repeat (first | (with_reducible first | exact HB.out | apply bA | apply bN | apply bD | refine bS ?_ GE290.out) | exact HB.out)⟩
        case n72 =>
         obtain rfl := Option.some.inj H
         go_wp2_with (first | ((with_reducible refine q06 (f := 20) rfl ?_); refine q0k (some 118) rfl rfl Tryd.func20 (by kernel_rfl) rfl #[] rfl (by (try simp only [List.map_toArray, List.map_cons, List.map_nil]); first | done | rfl | (simp only [List.length_drop, List.length_take]; rfl)) ?_; (with_reducible refine (clerestorylaw1_walkBegun.calls k3  true _ A66.out).mono ?_); rintro e w78 ⟨rfl, hb⟩; refine ⟨_, rfl, ?_⟩; replace HO_291000 := aS (Kd.V_below (by (with_reducible repeat (first | apply vA | apply vN | apply vD)); exact HO_291000.out) hb); replace BK290 := aS (q08 (g := gb290) (o := .cells #[.slice (some ad319) t291.length co15, .bool t294] 24 (0, 0)) (by (with_reducible repeat (first | refine kN ?_ _ | refine kD ?_ | refine kA ?_ _)); exact BK290.out) hb); replace HR319_2 := aS (Kd.C_below (by repeat (first | (with_reducible exact HR319_2.out) | (with_reducible refine cA ?_ _) | (with_reducible refine cN ?_ _) | (with_reducible refine cD ?_) | exact HR319_2.out)) hb); replace HR319_5 := aS (Kd.C_below (by repeat (first | (with_reducible exact HR319_5.out) | (with_reducible refine cA ?_ _) | (with_reducible refine cN ?_ _) | (with_reducible refine cD ?_) | exact HR319_5.out)) hb); replace HR320_2 := aS (Kd.C_below (by repeat (first | (with_reducible exact HR320_2.out) | (with_reducible refine cA ?_ _) | (with_reducible refine cN ?_ _) | (with_reducible refine cD ?_) | exact HR320_2.out)) hb); replace HR320_5 := aS (Kd.C_below (by repeat (first | (with_reducible exact HR320_5.out) | (with_reducible refine cA ?_ _) | (with_reducible refine cN ?_ _) | (with_reducible refine cD ?_) | exact HR320_5.out)) hb); replace HB := aS (q03 (by repeat (first | (with_reducible first | exact HB.out | apply bA | apply bN | apply bD | refine bS ?_ GE290.out) | exact HB.out)) hb); (try clear hb); (try clear hb2); (try clear hk); (try clear hi)))
         go_ret
         exact ⟨by first | rfl | (simp [q02, q01] <;> rfl) | (simp [*, q02, q01] <;> rfl), by repeat (first | (with_reducible first | exact HB.out | apply bA | apply bN | apply bD | refine bS ?_ GE290.out) | exact HB.out)⟩
        case n71 =>
         obtain rfl := Option.some.inj H
         go_wp2_with (first | ((with_reducible refine q06 (f := 20) rfl ?_); refine q0k (some 118) rfl rfl Tryd.func20 (by kernel_rfl) rfl #[] rfl (by (try simp only [List.map_toArray, List.map_cons, List.map_nil]); first | done | rfl | (simp only [List.length_drop, List.length_take]; rfl)) ?_; (with_reducible refine (clerestorylaw1_walkBegun.calls k3  true _ A66.out).mono ?_); rintro e w79 ⟨rfl, hb⟩; refine ⟨_, rfl, ?_⟩; replace HO_291000 := aS (Kd.V_below (by (with_reducible repeat (first | apply vA | apply vN | apply vD)); exact HO_291000.out) hb); replace BK290 := aS (q08 (g := gb290) (o := .cells #[.slice (some ad319) t291.length co15, .bool t294] 24 (0, 0)) (by (with_reducible repeat (first | refine kN ?_ _ | refine kD ?_ | refine kA ?_ _)); exact BK290.out) hb); replace HR319_2 := aS (Kd.C_below (by repeat (first | (with_reducible exact HR319_2.out) | (with_reducible refine cA ?_ _) | (with_reducible refine cN ?_ _) | (with_reducible refine cD ?_) | exact HR319_2.out)) hb); replace HR319_5 := aS (Kd.C_below (by repeat (first | (with_reducible exact HR319_5.out) | (with_reducible refine cA ?_ _) | (with_reducible refine cN ?_ _) | (with_reducible refine cD ?_) | exact HR319_5.out)) hb); replace HR320_2 := aS (Kd.C_below (by repeat (first | (with_reducible exact HR320_2.out) | (with_reducible refine cA ?_ _) | (with_reducible refine cN ?_ _) | (with_reducible refine cD ?_) | exact HR320_2.out)) hb); replace HR320_5 := aS (Kd.C_below (by repeat (first | (with_reducible exact HR320_5.out) | (with_reducible refine cA ?_ _) | (with_reducible refine cN ?_ _) | (with_reducible refine cD ?_) | exact HR320_5.out)) hb); replace HB := aS (q03 (by repeat (first | (with_reducible first | exact HB.out | apply bA | apply bN | apply bD | refine bS ?_ GE290.out) | exact HB.out)) hb); (try clear hb); (try clear hb2); (try clear hk); (try clear hi)))
         go_ret
         exact ⟨by first | rfl | (simp [q02, q01] <;> rfl) | (simp [*, q02, q01] <;> rfl), by repeat (first | (with_reducible first | exact HB.out | apply bA | apply bN | apply bD | refine bS ?_ GE290.out) | exact HB.out)⟩
        case n70 =>
         (try (have c70b1 : decide (t297 = x18_10) = false := by simpa using c70))
         (try (have c70b2 : (t297 == x18_10) = false := by simpa using c70))
         (try (have c70b3 : ¬ (t297 = x18_10) := by simpa using c70))
         clear c70
         obtain rfl := Option.some.inj H
         go_wp2_with (first | ((with_reducible refine q06 (f := 20) rfl ?_); refine q0k (some 118) rfl rfl Tryd.func20 (by kernel_rfl) rfl #[] rfl (by (try simp only [List.map_toArray, List.map_cons, List.map_nil]); first | done | rfl | (simp only [List.length_drop, List.length_take]; rfl)) ?_; (with_reducible refine (clerestorylaw1_walkBegun.calls k3  true _ A66.out).mono ?_); rintro e w80 ⟨rfl, hb⟩; refine ⟨_, rfl, ?_⟩; replace HO_291000 := aS (Kd.V_below (by (with_reducible repeat (first | apply vA | apply vN | apply vD)); exact HO_291000.out) hb); replace BK290 := aS (q08 (g := gb290) (o := .cells #[.slice (some ad319) t291.length co15, .bool t294] 24 (0, 0)) (by (with_reducible repeat (first | refine kN ?_ _ | refine kD ?_ | refine kA ?_ _)); exact BK290.out) hb); replace HR319_2 := aS (Kd.C_below (by repeat (first | (with_reducible exact HR319_2.out) | (with_reducible refine cA ?_ _) | (with_reducible refine cN ?_ _) | (with_reducible refine cD ?_) | exact HR319_2.out)) hb); replace HR319_5 := aS (Kd.C_below (by repeat (first | (with_reducible exact HR319_5.out) | (with_reducible refine cA ?_ _) | (with_reducible refine cN ?_ _) | (with_reducible refine cD ?_) | exact HR319_5.out)) hb); replace HR320_2 := aS (Kd.C_below (by repeat (first | (with_reducible exact HR320_2.out) | (with_reducible refine cA ?_ _) | (with_reducible refine cN ?_ _) | (with_reducible refine cD ?_) | exact HR320_2.out)) hb); replace HR320_5 := aS (Kd.C_below (by repeat (first | (with_reducible exact HR320_5.out) | (with_reducible refine cA ?_ _) | (with_reducible refine cN ?_ _) | (with_reducible refine cD ?_) | exact HR320_5.out)) hb); replace HB := aS (q03 (by repeat (first | (with_reducible first | exact HB.out | apply bA | apply bN | apply bD | refine bS ?_ GE290.out) | exact HB.out)) hb); (try clear hb); (try clear hb2); (try clear hk); (try clear hi)))
         go_ret
         exact ⟨by first | rfl | (simp [q02, q01] <;> rfl) | (simp [*, q02, q01] <;> rfl), by repeat (first | (with_reducible first | exact HB.out | apply bA | apply bN | apply bD | refine bS ?_ GE290.out) | exact HB.out)⟩
        case n69 =>
         obtain rfl := Option.some.inj H
         go_wp2_with (first | ((with_reducible refine q06 (f := 20) rfl ?_); refine q0k (some 118) rfl rfl Tryd.func20 (by kernel_rfl) rfl #[] rfl (by (try simp only [List.map_toArray, List.map_cons, List.map_nil]); first | done | rfl | (simp only [List.length_drop, List.length_take]; rfl)) ?_; (with_reducible refine (clerestorylaw1_walkBegun.calls k3  true _ A66.out).mono ?_); rintro e w81 ⟨rfl, hb⟩; refine ⟨_, rfl, ?_⟩; replace HO_291000 := aS (Kd.V_below (by (with_reducible repeat (first | apply vA | apply vN | apply vD)); exact HO_291000.out) hb); replace BK290 := aS (q08 (g := gb290) (o := .cells #[.slice (some ad319) t291.length co15, .bool t294] 24 (0, 0)) (by (with_reducible repeat (first | refine kN ?_ _ | refine kD ?_ | refine kA ?_ _)); exact BK290.out) hb); replace HR319_2 := aS (Kd.C_below (by repeat (first | (with_reducible exact HR319_2.out) | (with_reducible refine cA ?_ _) | (with_reducible refine cN ?_ _) | (with_reducible refine cD ?_) | exact HR319_2.out)) hb); replace HR319_5 := aS (Kd.C_below (by repeat (first | (with_reducible exact HR319_5.out) | (with_reducible refine cA ?_ _) | (with_reducible refine cN ?_ _) | (with_reducible refine cD ?_) | exact HR319_5.out)) hb); replace HR320_2 := aS (Kd.C_below (by repeat (first | (with_reducible exact HR320_2.out) | (with_reducible refine cA ?_ _) | (with_reducible refine cN ?_ _) | (with_reducible refine cD ?_) | exact HR320_2.out)) hb); replace HR320_5 := aS (Kd.C_below (by repeat (first | (with_reducible exact HR320_5.out) | (with_reducible refine cA ?_ _) | (with_reducible refine cN ?_ _) | (with_reducible refine cD ?_) | exact HR320_5.out)) hb); replace HB := aS (q03 (by repeat (first | (with_reducible first | exact HB.out | apply bA | apply bN | apply bD | refine bS ?_ GE290.out) | exact HB.out)) hb); (try clear hb); (try clear hb2); (try clear hk); (try clear hi)))
         go_ret
         exact ⟨by first | rfl | (simp [q02, q01] <;> rfl) | (simp [*, q02, q01] <;> rfl), by repeat (first | (with_reducible first | exact HB.out | apply bA | apply bN | apply bD | refine bS ?_ GE290.out) | exact HB.out)⟩
        case n68 =>
         (try (have c68b1 : decide (t295 = x17_10) = false := by simpa using c68))
         (try (have c68b2 : (t295 == x17_10) = false := by simpa using c68))
         (try (have c68b3 : ¬ (t295 = x17_10) := by simpa using c68))
         clear c68
         obtain rfl := Option.some.inj H
         go_wp2_with (first | ((with_reducible refine q06 (f := 20) rfl ?_); refine q0k (some 118) rfl rfl Tryd.func20 (by kernel_rfl) rfl #[] rfl (by (try simp only [List.map_toArray, List.map_cons, List.map_nil]); first | done | rfl | (simp only [List.length_drop, List.length_take]; rfl)) ?_; (with_reducible refine (clerestorylaw1_walkBegun.calls k3  true _ A66.out).mono ?_); rintro e w82 ⟨rfl, hb⟩; refine ⟨_, rfl, ?_⟩; replace HO_291000 := aS (Kd.V_below (by (with_reducible repeat (first | apply vA | apply vN | apply vD)); exact HO_291000.out) hb); replace BK290 := aS (q08 (g := gb290) (o := .cells #[.slice (some ad319) t291.length co15, .bool t294] 24 (0, 0)) (by (with_reducible repeat (first | refine kN ?_ _ | refine kD ?_ | refine kA ?_ _)); exact BK290.out) hb); replace HR319_2 := aS (Kd.C_below (by repeat (first | (with_reducible exact HR319_2.out) | (with_reducible refine cA ?_ _) | (with_reducible refine cN ?_ _) | (with_reducible refine cD ?_) | exact HR319_2.out)) hb); replace HR319_5 := aS (Kd.C_below (by repeat (first | (with_reducible exact HR319_5.out) | (with_reducible refine cA ?_ _) | (with_reducible refine cN ?_ _) | (with_reducible refine cD ?_) | exact HR319_5.out)) hb); replace HR320_2 := aS (Kd.C_below (by repeat (first | (with_reducible exact HR320_2.out) | (with_reducible refine cA ?_ _) | (with_reducible refine cN ?_ _) | (with_reducible refine cD ?_) | exact HR320_2.out)) hb); replace HR320_5 := aS (Kd.C_below (by repeat (first | (with_reducible exact HR320_5.out) | (with_reducible refine cA ?_ _) | (with_reducible refine cN ?_ _) | (with_reducible refine cD ?_) | exact HR320_5.out)) hb); replace HB := aS (q03 (by repeat (first | (with_reducible first | exact HB.out | apply bA | apply bN | apply bD | refine bS ?_ GE290.out) | exact HB.out)) hb); (try clear hb); (try clear hb2); (try clear hk); (try clear hi)))
         go_ret
         exact ⟨by first | rfl | (simp [q02, q01] <;> rfl) | (simp [*, q02, q01] <;> rfl), by repeat (first | (with_reducible first | exact HB.out | apply bA | apply bN | apply bD | refine bS ?_ GE290.out) | exact HB.out)⟩
        case n67 =>
         obtain rfl := Option.some.inj H
         go_wp2_with (first | ((with_reducible refine q06 (f := 20) rfl ?_); refine q0k (some 118) rfl rfl Tryd.func20 (by kernel_rfl) rfl #[] rfl (by (try simp only [List.map_toArray, List.map_cons, List.map_nil]); first | done | rfl | (simp only [List.length_drop, List.length_take]; rfl)) ?_; (with_reducible refine (clerestorylaw1_walkBegun.calls k3  false _ A66.out).mono ?_); rintro e w83 ⟨rfl, hb⟩; refine ⟨_, rfl, ?_⟩; replace HO_291000 := aS (Kd.V_below (by (with_reducible repeat (first | apply vA | apply vN | apply vD)); exact HO_291000.out) hb); replace BK290 := aS (q08 (g := gb290) (o := .cells #[.slice (some ad319) t291.length co15, .bool t294] 24 (0, 0)) (by (with_reducible repeat (first | refine kN ?_ _ | refine kD ?_ | refine kA ?_ _)); exact BK290.out) hb); replace HR319_2 := aS (Kd.C_below (by repeat (first | (with_reducible exact HR319_2.out) | (with_reducible refine cA ?_ _) | (with_reducible refine cN ?_ _) | (with_reducible refine cD ?_) | exact HR319_2.out)) hb); replace HR319_5 := aS (Kd.C_below (by repeat (first | (with_reducible exact HR319_5.out) | (with_reducible refine cA ?_ _) | (with_reducible refine cN ?_ _) | (with_reducible refine cD ?_) | exact HR319_5.out)) hb); replace HR320_2 := aS (Kd.C_below (by repeat (first | (with_reducible exact HR320_2.out) | (with_reducible refine cA ?_ _) | (with_reducible refine cN ?_ _) | (with_reducible refine cD ?_) | exact HR320_2.out)) hb); replace HR320_5 := aS (Kd.C_below (by repeat (first | (with_reducible exact HR320_5.out) | (with_reducible refine cA ?_ _) | (with_reducible refine cN ?_ _) | (with_reducible refine cD ?_) | exact HR320_5.out)) hb); replace HB := aS (q03 (by repeat (first | (with_reducible first | exact HB.out | apply bA | apply bN | apply bD | refine bS ?_ GE290.out) | exact HB.out)) hb); (try clear hb); (try clear hb2); (try clear hk); (try clear hi)))
         go_ret
         exact ⟨by first | rfl | (simp [q02, q01] <;> rfl) | (simp [*, q02, q01] <;> rfl), by repeat (first | (with_reducible first | exact HB.out | apply bA | apply bN | apply bD | refine bS ?_ GE290.out) | exact HB.out)⟩
     case p92 =>
      obtain rfl := Option.some.inj H
      go_wp2_with (first | ((with_reducible refine q06 (f := 20) rfl ?_); refine q0k (some 118) rfl rfl Tryd.func20 (by kernel_rfl) rfl #[] rfl (by (try simp only [List.map_toArray, List.map_cons, List.map_nil]); first | done | rfl | (simp only [List.length_drop, List.length_take]; rfl)) ?_; (with_reducible refine (clerestorylaw1_walkBegun.calls kj53  true _ A84.out).mono ?_); rintro e w93 ⟨rfl, hb⟩; refine ⟨_, rfl, ?_⟩; replace HO_291000 := aS (Kd.V_below (by (with_reducible repeat (first | apply vA | apply vN | apply vD)); exact HO_291000.out) hb); replace BK290 := aS (q08 (g := gb290) (o := .cells #[.slice Ao15 t291.length co15, .bool t294] 24 (0, 0)) (by (with_reducible repeat (first | refine kN ?_ _ | refine kD ?_ | refine kA ?_ _)); exact BK290.out) hb); replace HB := aS (q03 (by repeat (first | (with_reducible first | exact HB.out | apply bA | apply bN | apply bD | refine bS ?_ GE290.out) | exact HB.out)) hb); (try clear hb); (try clear hb2); (try clear hk); (try clear hi)))
      go_ret
      exact ⟨by first | rfl | (simp [q02, q01] <;> rfl) | (simp [*, q02, q01] <;> rfl), by repeat (first | (with_reducible first | exact HB.out | apply bA | apply bN | apply bD | refine bS ?_ GE290.out) | exact HB.out)⟩
     case n92 =>
      obtain rfl := Option.some.inj H
      go_wp2_with (first | ((with_reducible refine q06 (f := 20) rfl ?_); refine q0k (some 118) rfl rfl Tryd.func20 (by kernel_rfl) rfl #[] rfl (by (try simp only [List.map_toArray, List.map_cons, List.map_nil]); first | done | rfl | (simp only [List.length_drop, List.length_take]; rfl)) ?_; (with_reducible refine (clerestorylaw1_walkBegun.calls kj53  true _ A84.out).mono ?_); rintro e w94 ⟨rfl, hb⟩; refine ⟨_, rfl, ?_⟩; replace HO_291000 := aS (Kd.V_below (by (with_reducible repeat (first | apply vA | apply vN | apply vD)); exact HO_291000.out) hb); replace BK290 := aS (q08 (g := gb290) (o := .cells #[.slice Ao15 t291.length co15, .bool t294] 24 (0, 0)) (by (with_reducible repeat (first | refine kN ?_ _ | refine kD ?_ | refine kA ?_ _)); exact BK290.out) hb); replace HB := aS (q03 (by repeat (first | (with_reducible first | exact HB.out | apply bA | apply bN | apply bD | refine bS ?_ GE290.out) | exact HB.out)) hb); (try clear hb); (try clear hb2); (try clear hk); (try clear hi)))
      go_ret
      exact ⟨by first | rfl | (simp [q02, q01] <;> rfl) | (simp [*, q02, q01] <;> rfl), by repeat (first | (with_reducible first | exact HB.out | apply bA | apply bN | apply bD | refine bS ?_ GE290.out) | exact HB.out)⟩
     case n91 =>
      obtain rfl := Option.some.inj H
      go_wp2_with (first | ((with_reducible refine q06 (f := 20) rfl ?_); refine q0k (some 118) rfl rfl Tryd.func20 (by kernel_rfl) rfl #[] rfl (by (try simp only [List.map_toArray, List.map_cons, List.map_nil]); first | done | rfl | (simp only [List.length_drop, List.length_take]; rfl)) ?_; (with_reducible refine (clerestorylaw1_walkBegun.calls kj53  true _ A84.out).mono ?_); rintro e w95 ⟨rfl, hb⟩; refine ⟨_, rfl, ?_⟩; replace HO_291000 := aS (Kd.V_below (by (with_reducible repeat (first | apply vA | apply vN | apply vD)); exact HO_291000.out) hb); replace BK290 := aS (q08 (g := gb290) (o := .cells #[.slice Ao15 t291.length co15, .bool t294] 24 (0, 0)) (by (with_reducible repeat (first | refine kN ?_ _ | refine kD ?_ | refine kA ?_ _)); exact BK290.out) hb); replace HB := aS (q03 (by repeat (first | (with_reducible first | exact HB.out | apply bA | apply bN | apply bD | refine bS ?_ GE290.out) | exact HB.out)) hb); (try clear hb); (try clear hb2); (try clear hk); (try clear hi)))
      go_ret
      exact ⟨by first | rfl | (simp [q02, q01] <;> rfl) | (simp [*, q02, q01] <;> rfl), by repeat (first | (with_reducible first | exact HB.out | apply bA | apply bN | apply bD | refine bS ?_ GE290.out) | exact HB.out)⟩
     case n90 =>
      obtain rfl := Option.some.inj H
      go_wp2_with (first | ((with_reducible refine q06 (f := 20) rfl ?_); refine q0k (some 118) rfl rfl Tryd.func20 (by kernel_rfl) rfl #[] rfl (by (try simp only [List.map_toArray, List.map_cons, List.map_nil]); first | done | rfl | (simp only [List.length_drop, List.length_take]; rfl)) ?_; (with_reducible refine (clerestorylaw1_walkBegun.calls kj53  true _ A84.out).mono ?_); rintro e w96 ⟨rfl, hb⟩; refine ⟨_, rfl, ?_⟩; replace HO_291000 := aS (Kd.V_below (by (with_reducible repeat (first | apply vA | apply vN | apply vD)); exact HO_291000.out) hb); replace BK290 := aS (q08 (g := gb290) (o := .cells #[.slice Ao15 t291.length co15, .bool t294] 24 (0, 0)) (by (with_reducible repeat (first | refine kN ?_ _ | refine kD ?_ | refine kA ?_ _)); exact BK290.out) hb); replace HB := aS (q03 (by repeat (first | (with_reducible first | exact HB.out | apply bA | apply bN | apply bD | refine bS ?_ GE290.out) | exact HB.out)) hb); (try clear hb); (try clear hb2); (try clear hk); (try clear hi)))
      go_ret
      exact ⟨by first | rfl | (simp [q02, q01] <;> rfl) | (simp [*, q02, q01] <;> rfl), by repeat (first | (with_reducible first | exact HB.out | apply bA | apply bN | apply bD | refine bS ?_ GE290.out) | exact HB.out)⟩
     case n89 =>
      obtain rfl := Option.some.inj H
      go_wp2_with (first | ((with_reducible refine q06 (f := 20) rfl ?_); refine q0k (some 118) rfl rfl Tryd.func20 (by kernel_rfl) rfl #[] rfl (by (try simp only [List.map_toArray, List.map_cons, List.map_nil]); first | done | rfl | (simp only [List.length_drop, List.length_take]; rfl)) ?_; (with_reducible refine (clerestorylaw1_walkBegun.calls kj53  true _ A84.out).mono ?_); rintro e w97 ⟨rfl, hb⟩; refine ⟨_, rfl, ?_⟩; replace HO_291000 := aS (Kd.V_below (by (with_reducible repeat (first | apply vA | apply vN | apply vD)); exact HO_291000.out) hb); replace BK290 := aS (q08 (g := gb290) (o := .cells #[.slice Ao15 t291.length co15, .bool t294] 24 (0, 0)) (by (with_reducible repeat (first | refine kN ?_ _ | refine kD ?_ | refine kA ?_ _)); exact BK290.out) hb); replace HB := aS (q03 (by repeat (first | (with_reducible first | exact HB.out | apply bA | apply bN | apply bD | refine bS ?_ GE290.out) | exact HB.out)) hb); (try clear hb); (try clear hb2); (try clear hk); (try clear hi)))
      go_ret
      exact ⟨by first | rfl | (simp [q02, q01] <;> rfl) | (simp [*, q02, q01] <;> rfl), by repeat (first | (with_reducible first | exact HB.out | apply bA | apply bN | apply bD | refine bS ?_ GE290.out) | exact HB.out)⟩
     case n88 =>
      (try (have c88b1 : decide (t297 = x18_10) = false := by simpa using c88))
      (try (have c88b2 : (t297 == x18_10) = false := by simpa using c88))
      (try (have c88b3 : ¬ (t297 = x18_10) := by simpa using c88))
      clear c88
      obtain rfl := Option.some.inj H
      go_wp2_with (first | ((with_reducible refine q06 (f := 20) rfl ?_); refine q0k (some 118) rfl rfl Tryd.func20 (by kernel_rfl) rfl #[] rfl (by (try simp only [List.map_toArray, List.map_cons, List.map_nil]); first | done | rfl | (simp only [List.length_drop, List.length_take]; rfl)) ?_; (with_reducible refine (clerestorylaw1_walkBegun.calls kj53  true _ A84.out).mono ?_); rintro e w98 ⟨rfl, hb⟩; refine ⟨_, rfl, ?_⟩; replace HO_291000 := aS (Kd.V_below (by (with_reducible repeat (first | apply vA | apply vN | apply vD)); exact HO_291000.out) hb); replace BK290 := aS (q08 (g := gb290) (o := .cells #[.slice Ao15 t291.length co15, .bool t294] 24 (0, 0)) (by (with_reducible repeat (first | refine kN ?_ _ | refine kD ?_ | refine kA ?_ _)); exact BK290.out) hb); replace HB := aS (q03 (by repeat (first | (with_reducible first | exact HB.out | apply bA | apply bN | apply bD | refine bS ?_ GE290.out) | exact HB.out)) hb); (try clear hb); (try clear hb2); (try clear hk); (try clear hi)))
      go_ret
      exact ⟨by first | rfl | (simp [q02, q01] <;> rfl) | (simp [*, q02, q01] <;> rfl), by repeat (first | (with_reducible first | exact HB.out | apply bA | apply bN | apply bD | refine bS ?_ GE290.out) | exact HB.out)⟩
     case n87 =>
      obtain rfl := Option.some.inj H
      go_wp2_with (first | ((with_reducible refine q06 (f := 20) rfl ?_); refine q0k (some 118) rfl rfl Tryd.func20 (by kernel_rfl) rfl #[] rfl (by (try simp only [List.map_toArray, List.map_cons, List.map_nil]); first | done | rfl | (simp only [List.length_drop, List.length_take]; rfl)) ?_; (with_reducible refine (clerestorylaw1_walkBegun.calls kj53  true _ A84.out).mono ?_); rintro e w99 ⟨rfl, hb⟩; refine ⟨_, rfl, ?_⟩; replace HO_291000 := aS (Kd.V_below (by (with_reducible repeat (first | apply vA | apply vN | apply vD)); exact HO_291000.out) hb); replace BK290 := aS (q08 (g := gb290) (o := .cells #[.slice Ao15 t291.length co15, .bool t294] 24 (0, 0)) (by (with_reducible repeat (first | refine kN ?_ _ | refine kD ?_ | refine kA ?_ _)); exact BK290.out) hb); replace HB := aS (q03 (by repeat (first | (with_reducible first | exact HB.out | apply bA | apply bN | apply bD | refine bS ?_ GE290.out) | exact HB.out)) hb); (try clear hb); (try clear hb2); (try clear hk); (try clear hi)))
      go_ret
      exact ⟨by first | rfl | (simp [q02, q01] <;> rfl) | (simp [*, q02, q01] <;> rfl), by repeat (first | (with_reducible first | exact HB.out | apply bA | apply bN | apply bD | refine bS ?_ GE290.out) | exact HB.out)⟩
     case n86 =>
      (try (have c86b1 : decide (t295 = x17_10) = false := by simpa using c86))
      (try (have c86b2 : (t295 == x17_10) = false := by simpa using c86))
      (try (have c86b3 : ¬ (t295 = x17_10) := by simpa using c86))
      clear c86
      obtain rfl := Option.some.inj H
      go_wp2_with (first | ((with_reducible refine q06 (f := 20) rfl ?_); refine q0k (some 118) rfl rfl Tryd.func20 (by kernel_rfl) rfl #[] rfl (by (try simp only [List.map_toArray, List.map_cons, List.map_nil]); first | done | rfl | (simp only [List.length_drop, List.length_take]; rfl)) ?_; (with_reducible refine (clerestorylaw1_walkBegun.calls kj53  true _ A84.out).mono ?_); rintro e w100 ⟨rfl, hb⟩; refine ⟨_, rfl, ?_⟩; replace HO_291000 := aS (Kd.V_below (by (with_reducible repeat (first | apply vA | apply vN | apply vD)); exact HO_291000.out) hb); replace BK290 := aS (q08 (g := gb290) (o := .cells #[.slice Ao15 t291.length co15, .bool t294] 24 (0, 0)) (by (with_reducible repeat (first | refine kN ?_ _ | refine kD ?_ | refine kA ?_ _)); exact BK290.out) hb); replace HB := aS (q03 (by repeat (first | (with_reducible first | exact HB.out | apply bA | apply bN | apply bD | refine bS ?_ GE290.out) | exact HB.out)) hb); (try clear hb); (try clear hb2); (try clear hk); (try clear hi)))
      go_ret
      exact ⟨by first | rfl | (simp [q02, q01] <;> rfl) | (simp [*, q02, q01] <;> rfl), by repeat (first | (with_reducible first | exact HB.out | apply bA | apply bN | apply bD | refine bS ?_ GE290.out) | exact HB.out)⟩
     case n85 =>
      obtain rfl := Option.some.inj H
      go_wp2_with (first | ((with_reducible refine q06 (f := 20) rfl ?_); refine q0k (some 118) rfl rfl Tryd.func20 (by kernel_rfl) rfl #[] rfl (by (try simp only [List.map_toArray, List.map_cons, List.map_nil]); first | done | rfl | (simp only [List.length_drop, List.length_take]; rfl)) ?_; (with_reducible refine (clerestorylaw1_walkBegun.calls kj53  false _ A84.out).mono ?_); rintro e w101 ⟨rfl, hb⟩; refine ⟨_, rfl, ?_⟩; replace HO_291000 := aS (Kd.V_below (by (with_reducible repeat (first | apply vA | apply vN | apply vD)); exact HO_291000.out) hb); replace BK290 := aS (q08 (g := gb290) (o := .cells #[.slice Ao15 t291.length co15, .bool t294] 24 (0, 0)) (by (with_reducible repeat (first | refine kN ?_ _ | refine kD ?_ | refine kA ?_ _)); exact BK290.out) hb); replace HB := aS (q03 (by repeat (first | (with_reducible first | exact HB.out | apply bA | apply bN | apply bD | refine bS ?_ GE290.out) | exact HB.out)) hb); (try clear hb); (try clear hb2); (try clear hk); (try clear hi)))
      go_ret
      exact ⟨by first | rfl | (simp [q02, q01] <;> rfl) | (simp [*, q02, q01] <;> rfl), by repeat (first | (with_reducible first | exact HB.out | apply bA | apply bN | apply bD | refine bS ?_ GE290.out) | exact HB.out)⟩
end Go.Proofs.YthjnallbbhnndaaDoor.XWp
namespace Go.Proofs.YthjnallbbhnndaaDoor.XWp
open Go.Proofs.YthjnallbbhnndaaDoor.Short Go.RowKit Go.Proofs.YthjnallbbhnndaaDoorW.PrintWords Go.Proofs.YthjnallbbhnndaaDoorW.PrintLast Go.Proofs.YthjnallbbhnndaaDoor
def ok122 (x_ : S122) : Prop := (fun x_ : ByteArray => x_.size ≤ reachBytes) x_.f0 ∧ (fun x_ : ByteArray => x_.size ≤ reachBytes) x_.f1
theorem rd122 : Rd.Reads Tryd.prog 122 k122 ok122 :=
  ((Rd.reads_struct Tryd.underlying122 (by kernel_rfl) (Rd.readsF_cons rfl (Rd.reads_string Tryd.underlying9 (by kernel_rfl)) (Rd.readsF_one rfl (Rd.reads_string Tryd.underlying9 (by kernel_rfl))))).iso (fun x : S122 => (x.f0, x.f1)) (fun p_ => ⟨p_.1, p_.2⟩) (fun _ => rfl)).imp (fun _ h_ => h_)
def ok43 (x_ : S43) : Prop := (fun x_ : Int => (Lit.int .i64 x_).wf = true) x_.f0 ∧ (fun x_ : ByteArray => x_.size ≤ reachBytes) x_.f1 ∧ (fun l_ : List (S122) => l_.length * 32 ≤ reachBytes ∧ l_.length ≤ 9223372036854775807 ∧ ∀ a ∈ l_, ok122 a) x_.f2 ∧ (fun x_ : ByteArray => x_.size ≤ reachBytes) x_.f3 ∧ (fun x_ : Int => (Lit.int .i64 x_).wf = true) x_.f4 ∧ (fun l_ : List Int => l_.length * 8 ≤ reachBytes ∧ l_.length ≤ 9223372036854775807 ∧ ∀ a ∈ l_, (fun x_ : Int => (Lit.int .i64 x_).wf = true) a) x_.f5
theorem rd43 : Rd.Reads Tryd.prog 43 k43 ok43 :=
  ((Rd.reads_struct Tryd.underlying43 (by kernel_rfl) (Rd.readsF_cons rfl (Rd.reads_int Tryd.underlying3 (by kernel_rfl)) (Rd.readsF_cons rfl (Rd.reads_string Tryd.underlying9 (by kernel_rfl)) (Rd.readsF_cons rfl (show Rd.Reads Tryd.prog 41 (Kd.slice 122 k122) (fun l_ : List (S122) => l_.length * 32 ≤ reachBytes ∧ l_.length ≤ 9223372036854775807 ∧ ∀ a ∈ l_, ok122 a) from (Rd.reads_slice Tryd.underlying41 (by kernel_rfl) rd122).imp (fun l_ h_ => ⟨(show Tryd.prog.bytesOf 122 = 32 from by kernel_rfl) ▸ h_.1, h_.2⟩)) (Rd.readsF_cons rfl (Rd.reads_string Tryd.underlying9 (by kernel_rfl)) (Rd.readsF_cons rfl (Rd.reads_int Tryd.underlying3 (by kernel_rfl)) (Rd.readsF_one rfl (show Rd.Reads Tryd.prog 31 (Kd.slice 3 (Kd.int .i64)) (fun l_ : List Int => l_.length * 8 ≤ reachBytes ∧ l_.length ≤ 9223372036854775807 ∧ ∀ a ∈ l_, (fun x_ : Int => (Lit.int .i64 x_).wf = true) a) from (Rd.reads_slice Tryd.underlying31 (by kernel_rfl) (Rd.reads_int Tryd.underlying3 (by kernel_rfl))).imp (fun l_ h_ => ⟨(show Tryd.prog.bytesOf 3 = 8 from by kernel_rfl) ▸ h_.1, h_.2⟩))))))))).iso (fun x : S43 => (x.f0, x.f1, x.f2, x.f3, x.f4, x.f5)) (fun p_ => ⟨p_.1, p_.2.1, p_.2.2.1, p_.2.2.2.1, p_.2.2.2.2.1, p_.2.2.2.2.2⟩) (fun _ => rfl)).imp (fun _ h_ => h_)
def ok24 (x_ : S24) : Prop := (fun l_ : List (S43) => l_.length * 96 ≤ reachBytes ∧ l_.length ≤ 9223372036854775807 ∧ ∀ a ∈ l_, ok43 a) x_.f0 ∧ (fun _ : Bool => True) x_.f1
theorem rd24 : Rd.Reads Tryd.prog 24 k24 ok24 :=
  ((Rd.reads_struct Tryd.underlying24 (by kernel_rfl) (Rd.readsF_cons rfl (show Rd.Reads Tryd.prog 22 (Kd.slice 43 k43) (fun l_ : List (S43) => l_.length * 96 ≤ reachBytes ∧ l_.length ≤ 9223372036854775807 ∧ ∀ a ∈ l_, ok43 a) from (Rd.reads_slice Tryd.underlying22 (by kernel_rfl) rd43).imp (fun l_ h_ => ⟨(show Tryd.prog.bytesOf 43 = 96 from by kernel_rfl) ▸ h_.1, h_.2⟩)) (Rd.readsF_one rfl (Rd.reads_bool Tryd.underlying4 (by kernel_rfl))))).iso (fun x : S24 => (x.f0, x.f1)) (fun p_ => ⟨p_.1, p_.2⟩) (fun _ => rfl)).imp (fun _ h_ => h_)
def clerestorylaw1_WalkPairs.Pure : Prop := ∀ (l0_0 : List (S43)) (a0_1 : Bool) (a1 : Int) (a2 : Int), (fun l_ : List (S43) => l_.length * 96 ≤ reachBytes ∧ l_.length ≤ 9223372036854775807 ∧ ∀ a ∈ l_, ok43 a) l0_0 → (fun _ : Bool => True) a0_1 → (fun x_ : Int => (Lit.int .i64 x_).wf = true) a1 → (fun x_ : Int => (Lit.int .i64 x_).wf = true) a2 → ∃ k, clerestorylaw1_WalkPairs.f k l0_0 a0_1 a1 a2 = some true
end Go.Proofs.YthjnallbbhnndaaDoor.XWp
namespace Go.Proofs.YthjnallbbhnndaaDoor.Dm
open Go Go.RowKit Go.Proofs.YthjnallbbhnndaaDoor.XWp Go.Proofs.YthjnallbbhnndaaDoorW.PrintWords Go.Proofs.YthjnallbbhnndaaDoorW.PrintLast Go.Proofs.YthjnallbbhnndaaDoorW.PrintMore
set_option maxRecDepth 100000
theorem few_of_form (l0 : List S43) (q : Bool) (most : Int) (hm : 0 ≤ most ∧ most ≤ 1000) (hl : l0.length * 96 ≤ reachBytes ∧ l0.length ≤ 9223372036854775807 ∧ ∀ a ∈ l0, ok43 a) :
    ∃ ns, clerestorylaw1_few.f l0 q most = some (ns, q) ∧ (ns.length : Int) ≤ most ∧ SmallN ns ∧ KidsLe ns 17592186044416 := by
  obtain ⟨ns, hns⟩ : ∃ ns, l0.take (mn (l0.length : Int) most).toNat = ns := ⟨_, rfl⟩
  have hmn : 0 ≤ mn (l0.length : Int) most ∧ mn (l0.length : Int) most ≤ (l0.length : Int) ∧ mn (l0.length : Int) most ≤ most := by unfold mn; split <;> omega
  refine ⟨ns, ?_, by rw [← hns, List.length_take]; omega, ?_⟩
  · unfold clerestorylaw1_few.f
    rw [if_pos hmn.1, if_pos hmn.2.1, hns]
  have hok : ∀ a ∈ ns, ok43 a := fun a ha => hl.2.2 a (by rw [← hns] at ha; exact List.mem_of_mem_take ha)
  have hz : smallA (z43).f2 ∧ (z43).f1.size ≤ 140737488355328 ∧ (z43).f5.length ≤ 17592186044416 := ⟨fun x hx => by simp [z43] at hx, by decide, by decide⟩
  have hall : ∀ i : Int, smallA (q00 ns i).f2 ∧ (q00 ns i).f1.size ≤ 140737488355328 ∧ (q00 ns i).f5.length ≤ 17592186044416 := by
    intro i
    unfold q00
    by_cases c : i.toNat < ns.length
    · have e : ns.getD i.toNat z43 = ns[i.toNat] := by simp [List.getD, c]
      rw [e]
      obtain ⟨_, h1, h2, _, _, h5⟩ := hok _ (List.getElem_mem c)
      unfold reachBytes at h1 h2 h5
      refine ⟨fun x hx => ?_, by omega, by have := h5.1; omega⟩
      have := (h2.2.2 x hx).1
      unfold reachBytes at this
      omega
    · have e : ns.getD i.toNat z43 = z43 := by simp [List.getD, c]
      rw [e]
      exact hz
  exact ⟨fun i => ⟨(hall i).1, (hall i).2.1⟩, fun i => (hall i).2.2⟩
theorem both_check (ns : List S43) (q : Bool) (hS : SmallN ns) (hK : KidsLe ns 17592186044416) : ∃ K, ∀ k, K < k → dom_Check.f k ns q = some (docE ns) ∧ clerestoryref1_DocErr.f k ns q = some (docE ns) :=
  ⟨2 * ns.length + rounds ns 17592186044416, fun k hk => ⟨check_eq ns q hS 17592186044416 (by decide) hK k hk, docErr_eq ns q 17592186044416 (by decide) hK k hk⟩⟩
end Go.Proofs.YthjnallbbhnndaaDoor.Dm
namespace Go.Proofs.YthjnallbbhnndaaDoor.Dm
open Go Go.RowKit Go.Proofs.YthjnallbbhnndaaDoor.XWp Go.Proofs.YthjnallbbhnndaaDoorW.PrintWords Go.Proofs.YthjnallbbhnndaaDoorW.PrintLast
structure Tree (ns : List S43) : Prop where
  many : ns.length ≤ 200
  some_ : 0 < ns.length
  root : par ns 0 = -1
  kid : ∀ i c : Int, 0 ≤ i → i < ns.length → c ∈ kidL ns i → 0 ≤ c ∧ c < ns.length ∧ par ns c = i
  once : ∀ i : Int, 0 ≤ i → i < ns.length → (kidL ns i).Nodup
  up : ∀ i : Int, 0 ≤ i → i < ns.length → par ns i = -1 ∨ (0 ≤ par ns i ∧ par ns i < ns.length ∧ i ∈ kidL ns (par ns i))
  deep : ∀ i : Int, 0 ≤ i → i < ns.length → q0m ns i ≤ 40 ∧ q0m ns i ≤ ns.length
theorem mem_hasK (l : List Int) (x : Int) : hasK l x = true ↔ x ∈ l := by
  unfold hasK
  rw [List.any_eq_true]
  constructor
  · rintro ⟨y, hy, h⟩
    obtain rfl := of_decide_eq_true h
    exact hy
  · intro h
    exact ⟨x, h, decide_eq_true rfl⟩
theorem kidsE_once {ns : List S43} {i : Int} : ∀ {l pre : List Int}, kidsE ns i pre l = 0 → l.Nodup ∧ ∀ c ∈ l, hasK pre c = false
  | [], _, _ => ⟨List.nodup_nil, fun c hc => by simp at hc⟩
  | x :: t, pre, h => by
    rw [kidsE_cons] at h
    by_cases hb : q1o ns i pre x = true
    · rw [if_pos hb] at h; cases h
    · rw [if_neg hb] at h
      have hr := kidBad_range hb
      by_cases h7 : i = 0 ∧ (q00 ns x).f0 = 3
      · rw [if_pos h7] at h; cases h
      · rw [if_neg h7] at h
        obtain ⟨h1, h2⟩ := kidsE_once h
        have hx : x ∉ t := fun hx => by
          have := h2 x hx
          rw [(hasK_snoc pre x x).2 (.inl rfl)] at this
          cases this
        refine ⟨List.nodup_cons.2 ⟨hx, h1⟩, fun c hc => ?_⟩
        rcases List.mem_cons.1 hc with rfl | hc
        · exact hr.2.2.2
        · have h3 := h2 c hc
          cases hp : hasK pre c
          · rfl
          · rw [(hasK_snoc pre x c).2 (.inr hp)] at h3
            cases h3
theorem kidsL_ok {ns : List S43} : ∀ {d i : Nat}, kidsL ns d i = 0 → ∀ j : Nat, i ≤ j → j < i + d → kidsE ns (j : Int) [] (kidL ns (j : Int)) = 0
  | 0, i, _, j, h1, h2 => by omega
  | d + 1, i, h, j, h1, h2 => by
    obtain ⟨ha, hb⟩ := orE_eq_zero (show orE (kidsE ns (i : Int) [] (kidL ns (i : Int))) (kidsL ns d (i + 1)) = 0 from h)
    by_cases e : j = i
    · subst e; exact ha
    · exact kidsL_ok hb j (by omega) (by omega)
theorem upsE_ok {ns : List S43} : ∀ {d i : Nat}, upsE ns d i = 0 → ∀ j : Nat, i ≤ j → j < i + d → q0m ns (j : Int) ≤ 40 ∧ q0m ns (j : Int) ≤ ns.length
  | 0, i, _, j, h1, h2 => by omega
  | d + 1, i, h, j, h1, h2 => by
    rw [upsE_succ] at h
    by_cases c : ns.length < q0m ns (i : Int)
    · rw [if_pos c] at h; cases h
    · rw [if_neg c] at h
      by_cases c' : 40 < q0m ns (i : Int)
      · rw [if_pos c'] at h; cases h
      · rw [if_neg c'] at h
        by_cases e : j = i
        · subst e; omega
        · exact upsE_ok h j (by omega) (by omega)
theorem tree_of {ns : List S43} (h : docE ns = 0) : Tree ns := by
  unfold docE at h
  by_cases c : 200 < ns.length
  · rw [if_pos c] at h; cases h
  · rw [if_neg c] at h
    by_cases c0 : ns.length = 0
    · rw [if_pos c0] at h; cases h
    · rw [if_neg c0] at h
      obtain ⟨_, h⟩ := orE_eq_zero h
      obtain ⟨hk, hu⟩ := orE_eq_zero h
      obtain ⟨hk, hp⟩ := orE_eq_zero (show orE (kidsL ns ns.length 0) (parsE ns ns.length 0) = 0 from hk)
      have nat : ∀ i : Int, 0 ≤ i → ((i.toNat : Nat) : Int) = i := fun i h0 => by omega
      refine ⟨by omega, by omega, (parsE_ok hp).1, fun i c h0 h1 hc => ?_, fun i h0 h1 => ?_, fun i h0 h1 => ?_, fun i h0 h1 => ?_⟩
      · have := kidsL_ok hk i.toNat (Nat.zero_le _) (by omega)
        rw [nat i h0] at this
        exact kidsE_ok this c hc
      · have := kidsL_ok hk i.toNat (Nat.zero_le _) (by omega)
        rw [nat i h0] at this
        exact (kidsE_once this).1
      · have := (parsE_ok hp).2 i.toNat (Nat.zero_le _) (by omega)
        rw [nat i h0] at this
        rcases parBad_ok this with h | h
        · exact .inl h
        · exact .inr ⟨h.1, h.2.1, (mem_hasK _ _).1 h.2.2⟩
      · have := upsE_ok hu i.toNat (Nat.zero_le _) (by omega)
        rw [nat i h0] at this
        exact this
theorem deepN_stab (ns : List S43) : ∀ (d : Nat) (i : Int), q1s ns d i < d → q1s ns (d + 1) i = q1s ns d i
  | 0, _, h => absurd h (Nat.not_lt_zero _)
  | d + 1, i, h => by
    rw [show q1s ns (d + 2) i = if par ns i ≥ 0 then 1 + q1s ns (d + 1) (par ns i) else 0 from rfl]
    rw [show q1s ns (d + 1) i = if par ns i ≥ 0 then 1 + q1s ns d (par ns i) else 0 from rfl] at h ⊢
    by_cases c : par ns i ≥ 0
    · rw [if_pos c] at h ⊢
      rw [if_pos c, deepN_stab ns d (par ns i) (by omega)]
    · rw [if_neg c, if_neg c]
theorem deep_up {ns : List S43} (h : Tree ns) {i : Int} (h0 : 0 ≤ i) (h1 : i < ns.length) (hp : 0 ≤ par ns i) : q0m ns i = q0m ns (par ns i) + 1 := by
  have hd := (h.deep i h0 h1).2
  unfold q0m at hd ⊢
  rw [show q1s ns (ns.length + 1) i = if par ns i ≥ 0 then 1 + q1s ns ns.length (par ns i) else 0 from rfl, if_pos hp] at hd ⊢
  rw [deepN_stab ns ns.length (par ns i) (by omega)]
  omega
theorem q1a {ns : List S43} (h : Tree ns) {i c : Int} (h0 : 0 ≤ i) (h1 : i < ns.length) (hc : c ∈ kidL ns i) : q0m ns c = q0m ns i + 1 := by
  obtain ⟨c0, c1, cp⟩ := h.kid i c h0 h1 hc
  rw [deep_up h c0 c1 (by omega), cp]
theorem deep_root {ns : List S43} (_h : Tree ns) {i : Int} (hp : par ns i < 0) : q0m ns i = 0 := by
  unfold q0m
  rw [show q1s ns (ns.length + 1) i = if par ns i ≥ 0 then 1 + q1s ns ns.length (par ns i) else 0 from rfl, if_neg (by omega)]
def upN (ns : List S43) : Nat → Int → Int
  | 0, x => x
  | d + 1, x => upN ns d (par ns x)
theorem upN_succ (ns : List S43) : ∀ (d : Nat) (x : Int), upN ns (d + 1) x = par ns (upN ns d x)
  | 0, _ => rfl
  | d + 1, x => upN_succ ns d (par ns x)
def pre (ns : List S43) : Nat → Int → List Int
  | 0, _ => []
  | d + 1, i => i :: (kidL ns i).flatMap (pre ns d)
def sub (ns : List S43) (i : Int) : List Int := pre ns (41 - q0m ns i) i
theorem flatMap_congr {α β : Type} {f g : α → List β} : ∀ {l : List α}, (∀ x ∈ l, f x = g x) → l.flatMap f = l.flatMap g
  | [], _ => rfl
  | x :: t, h => by
    rw [List.flatMap_cons, List.flatMap_cons, h x (by simp), flatMap_congr fun y hy => h y (by simp [hy])]
theorem sub_eq {ns : List S43} (h : Tree ns) {i : Int} (h0 : 0 ≤ i) (h1 : i < ns.length) : sub ns i = i :: (kidL ns i).flatMap (sub ns) := by
  have hd := (h.deep i h0 h1).1
  obtain ⟨m, hm⟩ : ∃ m, 41 - q0m ns i = m + 1 := ⟨40 - q0m ns i, by omega⟩
  have e : sub ns i = i :: (kidL ns i).flatMap (pre ns m) := by unfold sub; rw [hm]; rfl
  rw [e]
  congr 1
  refine flatMap_congr fun c hc => ?_
  unfold sub
  rw [q1a h h0 h1 hc, show 41 - (q0m ns i + 1) = m by omega]
theorem sub_mem {ns : List S43} (h : Tree ns) : ∀ (d : Nat) (i : Int), 41 - q0m ns i ≤ d → 0 ≤ i → i < ns.length → ∀ x ∈ sub ns i, 0 ≤ x ∧ x < ns.length ∧ q0m ns i ≤ q0m ns x ∧ upN ns (q0m ns x - q0m ns i) x = i
  | 0, i, hd, h0, h1, x, hx => by
    have := (h.deep i h0 h1).1
    omega
  | d + 1, i, hd, h0, h1, x, hx => by
    rw [sub_eq h h0 h1] at hx
    rcases List.mem_cons.1 hx with rfl | hx
    · exact ⟨h0, h1, Nat.le_refl _, by rw [Nat.sub_self]; rfl⟩
    · obtain ⟨c, hc, hx⟩ := List.mem_flatMap.1 hx
      obtain ⟨c0, c1, cp⟩ := h.kid i c h0 h1 hc
      have hk := q1a h h0 h1 hc
      have hdi := (h.deep i h0 h1).1
      obtain ⟨x0, x1, x2, x3⟩ := sub_mem h d c (by omega) c0 c1 x hx
      refine ⟨x0, x1, by omega, ?_⟩
      rw [show q0m ns x - q0m ns i = (q0m ns x - q0m ns c) + 1 by omega, upN_succ, x3, cp]
theorem q1d {ns : List S43} (h : Tree ns) {i : Int} (h0 : 0 ≤ i) (h1 : i < ns.length) {x : Int} (hx : x ∈ sub ns i) : 0 ≤ x ∧ x < ns.length ∧ q0m ns i ≤ q0m ns x ∧ upN ns (q0m ns x - q0m ns i) x = i :=
  sub_mem h _ i (Nat.le_refl _) h0 h1 x hx
theorem nodup_flat {f : Int → List Int} : ∀ {l : List Int}, l.Nodup → (∀ c ∈ l, (f c).Nodup) → (∀ c ∈ l, ∀ c' ∈ l, ∀ x, x ∈ f c → x ∈ f c' → c = c') → (l.flatMap f).Nodup
  | [], _, _, _ => List.nodup_nil
  | c :: t, h, hf, hd => by
    rw [List.flatMap_cons]
    obtain ⟨hc, ht⟩ := List.nodup_cons.1 h
    refine List.nodup_append.2 ⟨hf c (by simp), nodup_flat ht (fun y hy => hf y (by simp [hy])) (fun y hy z hz x h1 h2 => hd y (by simp [hy]) z (by simp [hz]) x h1 h2), fun x hx y hy e => ?_⟩
    subst e
    obtain ⟨z, hz, hxz⟩ := List.mem_flatMap.1 hy
    exact hc (hd c (by simp) z (by simp [hz]) x hx hxz ▸ hz)
theorem sub_once {ns : List S43} (h : Tree ns) : ∀ (d : Nat) (i : Int), 41 - q0m ns i ≤ d → 0 ≤ i → i < ns.length → (sub ns i).Nodup
  | 0, i, hd, h0, h1 => by
    have := (h.deep i h0 h1).1
    omega
  | d + 1, i, hd, h0, h1 => by
    rw [sub_eq h h0 h1]
    have hdi := (h.deep i h0 h1).1
    refine List.nodup_cons.2 ⟨fun hi => ?_, nodup_flat (h.once i h0 h1) (fun c hc => ?_) fun c hc c' hc' x hx hx' => ?_⟩
    · obtain ⟨c, hc, hx⟩ := List.mem_flatMap.1 hi
      obtain ⟨c0, c1, _⟩ := h.kid i c h0 h1 hc
      have := (q1d h c0 c1 hx).2.2.1
      have := q1a h h0 h1 hc
      omega
    · obtain ⟨c0, c1, _⟩ := h.kid i c h0 h1 hc
      exact sub_once h d c (by have := q1a h h0 h1 hc; omega) c0 c1
    · obtain ⟨c0, c1, _⟩ := h.kid i c h0 h1 hc
      obtain ⟨c0', c1', _⟩ := h.kid i c' h0 h1 hc'
      have e := (q1d h c0 c1 hx).2.2.2
      have e' := (q1d h c0' c1' hx').2.2.2
      rw [q1a h h0 h1 hc] at e
      rw [q1a h h0 h1 hc'] at e'
      exact e.symm.trans e'
theorem sub_nodup {ns : List S43} (h : Tree ns) {i : Int} (h0 : 0 ≤ i) (h1 : i < ns.length) : (sub ns i).Nodup := sub_once h _ i (Nat.le_refl _) h0 h1
theorem few_of : ∀ (n : Nat) (l : List Int), l.Nodup → (∀ x ∈ l, 0 ≤ x ∧ x < n) → l.length ≤ n
  | 0, [], _, _ => Nat.le_refl _
  | 0, x :: t, _, h => by have := h x (by simp); omega
  | n + 1, l, hn, h => by
    have h2 : (l.filter (fun x => decide (x ≠ (n : Int)))).length ≤ n := by
      refine few_of n _ (hn.filter _) fun x hx => ?_
      have hx := List.mem_filter.1 hx
      have := h x hx.1
      have := of_decide_eq_true hx.2
      omega
    have h3 : l.length ≤ (l.filter (fun x => decide (x ≠ (n : Int)))).length + 1 := by
      clear h h2
      induction l with
      | nil => simp
      | cons x t ih =>
        obtain ⟨hx, ht⟩ := List.nodup_cons.1 hn
        by_cases e : x = (n : Int)
        · have : t.filter (fun x => decide (x ≠ (n : Int))) = t := by
            refine List.filter_eq_self.2 fun y hy => decide_eq_true fun e' => hx ?_
            rw [e, ← e']
            exact hy
          rw [List.filter_cons_of_neg (by simp [e]), this]
          simp
        · rw [List.filter_cons_of_pos (by simp [e])]
          have := ih ht
          simp only [List.length_cons]
          omega
    omega
theorem sub_few {ns : List S43} (h : Tree ns) {i : Int} (h0 : 0 ≤ i) (h1 : i < ns.length) : (sub ns i).length ≤ ns.length :=
  few_of _ _ (sub_nodup h h0 h1) fun _ hx => ⟨(q1d h h0 h1 hx).1, (q1d h h0 h1 hx).2.1⟩
end Go.Proofs.YthjnallbbhnndaaDoor.Dm
namespace Go.Proofs.YthjnallbbhnndaaDoor.Dm
open Go Go.RowKit Go.Proofs.YthjnallbbhnndaaDoor.XWp Go.Proofs.YthjnallbbhnndaaDoorW.PrintWords Go.Proofs.YthjnallbbhnndaaDoorW.PrintLast
def idx : List Int → Int → Nat
  | [], _ => 0
  | y :: t, x => if y = x then 0 else idx t x + 1
theorem idx_mid : ∀ (U V : List Int) (x : Int), x ∉ U → idx (U ++ x :: V) x = U.length
  | [], V, x, _ => by simp [idx]
  | u :: U, V, x, h => by
    have h1 : ¬ u = x := fun e => h (by simp [e])
    have h2 : x ∉ U := fun e => h (by simp [e])
    rw [List.cons_append, idx, if_neg h1, idx_mid U V x h2]
    rfl
theorem rd_mid (U V : List Int) (x : Int) : rd (U ++ x :: V) (U.length : Int) = x := by
  simp [rd, List.getD]
def hdI : List Int → Int
  | [] => -1
  | b :: _ => b
def lsI (l : List Int) : Int := l.getLast?.getD (-1)
theorem lsI_snoc (l : List Int) (x : Int) : lsI (l ++ [x]) = x := by simp [lsI]
theorem lsI_app (l m : List Int) (h : m ≠ []) : lsI (l ++ m) = lsI m := by
  unfold lsI
  rw [List.getLast?_append]
  cases hm : m.getLast? with
  | none => exact absurd (List.getLast?_eq_none_iff.1 hm) h
  | some a => rfl
def q17 (ns : List S43) (x by_ : Int) : Int :=
  if par ns x < 0 then -1 else
    if (idx (kidL ns (par ns x)) x : Int) + by_ < 0 ∨ (idx (kidL ns (par ns x)) x : Int) + by_ ≥ ((kidL ns (par ns x)).length : Int) then -1 else rd (kidL ns (par ns x)) ((idx (kidL ns (par ns x)) x : Int) + by_)
def overI (ns : List S43) : Nat → Int → Int
  | 0, _ => -1
  | d + 1, x => if q17 ns x 1 ≥ 0 then q17 ns x 1 else if par ns x < 0 then -1 else overI ns d (par ns x)
def lastD (ns : List S43) : Nat → Int → Int
  | 0, x => x
  | d + 1, x => if (kidL ns x).length = 0 then x else lastD ns d (rd (kidL ns x) ((kidL ns x).length - 1 : Int))
def lastI (ns : List S43) (x : Int) : Int := if q17 ns x (-1) < 0 then par ns x else lastD ns (41 - q0m ns (q17 ns x (-1))) (q17 ns x (-1))
theorem sub_ne {ns : List S43} (h : Tree ns) {i : Int} (h0 : 0 ≤ i) (h1 : i < ns.length) : sub ns i ≠ [] := by rw [sub_eq h h0 h1]; simp
theorem last_sub {ns : List S43} (h : Tree ns) : ∀ (d : Nat) (i : Int), 41 - q0m ns i = d → 0 ≤ i → i < ns.length → lsI (sub ns i) = lastD ns d i
  | 0, i, hd, h0, h1 => by
    have := (h.deep i h0 h1).1
    omega
  | d + 1, i, hd, h0, h1 => by
    rw [sub_eq h h0 h1, lastD]
    by_cases c : (kidL ns i).length = 0
    · rw [if_pos c, List.eq_nil_of_length_eq_zero c]
      rfl
    · rw [if_neg c]
      obtain ⟨U, u, hU⟩ : ∃ U u, kidL ns i = U ++ [u] := ⟨(kidL ns i).dropLast, (kidL ns i).getLast (fun e => c (by rw [e]; rfl)), (List.dropLast_concat_getLast _).symm⟩
      have hm : u ∈ kidL ns i := by rw [hU]; simp
      obtain ⟨u0, u1, _⟩ := h.kid i u h0 h1 hm
      have hk := q1a h h0 h1 hm
      rw [hU]
      have e1 : rd (U ++ [u]) (((U ++ [u]).length : Int) - 1) = u := by
        rw [show (((U ++ [u]).length : Int) - 1) = (U.length : Int) by simp]
        exact rd_mid U [] u
      rw [e1, List.flatMap_append, List.flatMap_cons, List.flatMap_nil, List.append_nil, ← List.cons_append, lsI_app _ _ (sub_ne h u0 u1), last_sub h d u (by omega) u0 u1]
theorem way {ns : List S43} (h : Tree ns) : ∀ (d : Nat) (x : Int), q0m ns x = d → 0 ≤ x → x < ns.length → upN ns d x = 0 →
    ∃ A B, sub ns 0 = A ++ sub ns x ++ B ∧ overI ns (d + 1) x = hdI B ∧ lastI ns x = lsI A
  | 0, x, hd, h0, h1, hu => by
    obtain rfl : x = 0 := hu
    have hb : ∀ b, q17 ns 0 b = -1 := fun b => by unfold q17; rw [if_pos (by rw [h.root]; decide)]
    refine ⟨[], [], by simp, ?_, ?_⟩
    · rw [overI, hb, if_neg (by decide), h.root, if_pos (by decide)]
      rfl
    · unfold lastI
      rw [hb, if_pos (by decide), h.root]
      rfl
  | d + 1, x, hd, h0, h1, hu => by
    have hp : ¬ par ns x < 0 := fun hp => by
      have := deep_root h hp
      omega
    obtain ⟨p, hpe⟩ : ∃ p, par ns x = p := ⟨_, rfl⟩
    rcases h.up x h0 h1 with hr | ⟨p0, p1, hx⟩
    · omega
    have hdp := deep_up h h0 h1 p0
    rw [hpe] at p0 p1 hx hdp hp
    have hu' : upN ns d p = 0 := by
      have : upN ns (d + 1) x = upN ns d (par ns x) := rfl
      rw [hpe] at this
      rw [← this]
      exact hu
    obtain ⟨A, B, hs, ho, hl⟩ := way h d p (by omega) p0 p1 hu'
    obtain ⟨U, V, hk⟩ := List.append_of_mem hx
    have hn := h.once p p0 p1
    rw [hk] at hn
    have hxU : x ∉ U := fun hxU => by
      have := List.nodup_append.1 hn
      exact this.2.2 x hxU x (by simp) rfl
    have hix : idx (kidL ns p) x = U.length := by rw [hk]; exact idx_mid U V x hxU
    have hlen : (kidL ns p).length = U.length + 1 + V.length := by rw [hk]; simp; omega
    have bes : ∀ b, q17 ns x b = if (U.length : Int) + b < 0 ∨ (U.length : Int) + b ≥ ((U.length + 1 + V.length : Nat) : Int) then -1 else rd (U ++ x :: V) ((U.length : Int) + b) := by
      intro b
      unfold q17
      rw [hpe, if_neg hp, hix, hlen, hk]
    refine ⟨A ++ p :: U.flatMap (sub ns), V.flatMap (sub ns) ++ B, ?_, ?_, ?_⟩
    · rw [hs, sub_eq h p0 p1, hk, List.flatMap_append, List.flatMap_cons]
      simp [List.append_assoc]
    · have step : overI ns (d + 1 + 1) x = if q17 ns x 1 ≥ 0 then q17 ns x 1 else if p < 0 then -1 else overI ns (d + 1) p := by rw [overI, hpe]
      rw [step]
      cases V with
      | nil =>
        have b1 : q17 ns x 1 = -1 := by
          rw [bes]
          exact if_pos (.inr (by simp))
        rw [b1, if_neg (by decide), if_neg hp, ho]
        rfl
      | cons v V =>
        have hv : v ∈ kidL ns p := by rw [hk]; simp
        obtain ⟨v0, v1, _⟩ := h.kid p v p0 p1 hv
        have e : rd (U ++ x :: v :: V) ((U.length : Int) + 1) = v := by
          have := rd_mid (U ++ [x]) V v
          rw [List.append_assoc] at this
          simpa using this
        have b1 : q17 ns x 1 = v := by
          rw [bes, if_neg (by simp only [List.length_cons]; omega), e]
        rw [b1, if_pos v0, List.flatMap_cons, sub_eq h v0 v1]
        rfl
    · unfold lastI
      rcases List.eq_nil_or_concat U with hU | ⟨U', u, hU⟩
      · subst hU
        have b1 : q17 ns x (-1) = -1 := by
          rw [bes]
          exact if_pos (.inl (by simp))
        rw [b1, if_pos (by decide), hpe, List.flatMap_nil]
        exact (lsI_snoc A p).symm
      · rw [List.concat_eq_append] at hU
        subst hU
        have hv : u ∈ kidL ns p := by rw [hk]; simp
        obtain ⟨u0, u1, _⟩ := h.kid p u p0 p1 hv
        have e : rd (U' ++ [u] ++ x :: V) (((U' ++ [u]).length : Int) + -1) = u := by
          have := rd_mid U' (x :: V) u
          rw [show (((U' ++ [u]).length : Int) + -1) = (U'.length : Int) by (simp only [List.length_append, List.length_cons, List.length_nil]; omega), List.append_assoc]
          exact this
        have b1 : q17 ns x (-1) = u := by
          rw [bes, if_neg (by simp only [List.length_append, List.length_cons, List.length_nil]; omega), e]
        rw [b1, if_neg (by omega), List.flatMap_append, List.flatMap_cons, List.flatMap_nil, List.append_nil, ← List.cons_append, ← List.append_assoc, lsI_app _ _ (sub_ne h u0 u1), last_sub h _ u rfl u0 u1]
theorem below_l0 {ns : List S43} (h : Tree ns) (q : Bool) (i : Int) (h0 : 0 ≤ i) (h1 : i < ns.length) (B : Nat) (H : ∀ c ∈ kidL ns i, ∀ k, B < k → clerestoryref1_Below.f k ns q c = some (sub ns c)) (d : Nat) : ∀ (j k : Nat) (o : List Int), j + d = (kidL ns i).length →
    o.length + ((kidL ns i).drop j |>.flatMap (sub ns)).length ≤ 1000 → B + d + 1 < k → clerestoryref1_Below.l0 k i o (j : Int) ns q = some (o ++ ((kidL ns i).drop j).flatMap (sub ns)) := by
  induction d with
  | zero =>
    intro j k o hj ho hk
    obtain ⟨k, rfl⟩ : ∃ z, k = z + 1 := ⟨k - 1, by omega⟩
    rw [clerestoryref1_Below.l0, if_pos h0, if_pos h1, show (q00 ns i).f5 = kidL ns i from rfl, if_neg (by omega), List.drop_eq_nil_of_le (by omega)]
    simp
  | succ d ih =>
    intro j k o hj ho hk
    obtain ⟨k, rfl⟩ : ∃ z, k = z + 1 := ⟨k - 1, by omega⟩
    have hlt : j < (kidL ns i).length := by omega
    have hjn : j ≤ 4611686018427387904 := by
      have := few_of ns.length (kidL ns i) (h.once i h0 h1) fun x hx => ⟨(h.kid i x h0 h1 hx).1, (h.kid i x h0 h1 hx).2.1⟩
      have := h.many
      omega
    have hd := dropK (kidL ns i) j hlt
    rw [hd, List.flatMap_cons, List.length_append] at ho
    have hm : rd (kidL ns i) (j : Int) ∈ kidL ns i := by
      have : rd (kidL ns i) (j : Int) ∈ (kidL ns i).drop j := by rw [hd]; simp
      exact List.mem_of_mem_drop this
    rw [clerestoryref1_Below.l0, if_pos h0, if_pos h1, show (q00 ns i).f5 = kidL ns i from rfl, if_pos (by omega), if_pos (by omega), H _ hm k (by omega), Option.bind_some, if_pos (by omega), w1 j hjn, ih (j + 1) k _ (by omega) (by rw [List.length_append]; omega) (by omega), hd, List.flatMap_cons, List.append_assoc]
theorem below_eq {ns : List S43} (h : Tree ns) (q : Bool) : ∀ (d : Nat) (i : Int), 41 - q0m ns i ≤ d → 0 ≤ i → i < ns.length → ∀ k, 210 * d < k → clerestoryref1_Below.f k ns q i = some (sub ns i)
  | 0, i, hd, h0, h1, k, hk => by
    have := (h.deep i h0 h1).1
    omega
  | d + 1, i, hd, h0, h1, k, hk => by
    obtain ⟨k, rfl⟩ : ∃ z, k = z + 1 := ⟨k - 1, by omega⟩
    have hn := few_of ns.length (kidL ns i) (h.once i h0 h1) fun x hx => ⟨(h.kid i x h0 h1 hx).1, (h.kid i x h0 h1 hx).2.1⟩
    have hm := h.many
    have hl := sub_few h h0 h1
    rw [sub_eq h h0 h1, List.length_cons] at hl
    rw [clerestoryref1_Below.f, sub_eq h h0 h1]
    have := below_l0 h q i h0 h1 (210 * d) (fun c hc k hk => by
      obtain ⟨c0, c1, _⟩ := h.kid i c h0 h1 hc
      have hdk := q1a h h0 h1 hc
      have hdi := (h.deep i h0 h1).1
      exact below_eq h q d c (by omega) c0 c1 k hk) (kidL ns i).length 0 k [i] (by omega) (by rw [List.drop_zero]; simp only [List.length_cons, List.length_nil]; omega) (by omega)
    rw [List.drop_zero] at this
    exact this
theorem below_all {ns : List S43} (h : Tree ns) (q : Bool) (i : Int) (h0 : 0 ≤ i) (h1 : i < ns.length) (k : Nat) (hk : 8610 < k) : clerestoryref1_Below.f k ns q i = some (sub ns i) := below_eq h q 41 i (by omega) h0 h1 k (by omega)
end Go.Proofs.YthjnallbbhnndaaDoor.Dm
namespace Go.Proofs.YthjnallbbhnndaaDoor.Dm
open Go Go.RowKit Go.Proofs.YthjnallbbhnndaaDoor.XWp Go.Proofs.YthjnallbbhnndaaDoorW.PrintWords Go.Proofs.YthjnallbbhnndaaDoorW.PrintLast
def idxI (l : List Int) (x : Int) : Int := if hasK l x = true then (idx l x : Int) else -1
theorem hasK_cons (y : Int) (t : List Int) (x : Int) : hasK (y :: t) x = (decide (y = x) || hasK t x) := rfl
theorem index_l0 (o : List Int) (x : Int) (ho : o.length ≤ 4611686018427387900) (d : Nat) : ∀ (i k : Nat), i + d = o.length → d < k →
    slices_Index_int_int.l0 k o x (o.length : Int) (i : Int) = some (if hasK (o.drop i) x = true then ((i + idx (o.drop i) x : Nat) : Int) else -1) := by
  induction d with
  | zero =>
    intro i k h hk
    obtain ⟨k, rfl⟩ : ∃ z, k = z + 1 := ⟨k - 1, by omega⟩
    rw [slices_Index_int_int.l0, if_neg (by omega), List.drop_eq_nil_of_le (by omega)]
    rfl
  | succ d ih =>
    intro i k h hk
    obtain ⟨k, rfl⟩ : ∃ z, k = z + 1 := ⟨k - 1, by omega⟩
    rw [slices_Index_int_int.l0, if_pos (by omega), if_pos (by omega), if_pos (by omega), w1 i (by omega), ih (i + 1) k (by omega) (by omega), dropK o i (by omega), hasK_cons, idx]
    by_cases c : x = rd o (i : Int)
    · rw [if_pos c, decide_eq_true c.symm, Bool.true_or, if_pos rfl, if_pos c.symm]
      rfl
    · rw [if_neg c, decide_eq_false (p := rd o (i : Int) = x) (fun e => c e.symm), Bool.false_or, if_neg (c := rd o (i : Int) = x) (fun e => c e.symm)]
      split
      · congr 1
        omega
      · rfl
theorem index_eq (o : List Int) (x : Int) (ho : o.length ≤ 4611686018427387900) (k : Nat) (hk : o.length < k) : slices_Index_int_int.f k o x = some (idxI o x) := by
  unfold slices_Index_int_int.f
  have := index_l0 o x ho o.length 0 k (by omega) hk
  rw [List.drop_zero, show ((0 : Nat) : Int) = 0 from rfl, Nat.zero_add] at this
  exact this
theorem place_l0' (o : List Int) (x : Int) (ho : o.length ≤ 4611686018427387900) (d : Nat) : ∀ (i k : Nat), i + d = o.length → d < k →
    clerestoryref1_placeIn.l0 k o x (i : Int) = some (if hasK (o.drop i) x = true then ((i + idx (o.drop i) x : Nat) : Int) else -1) := by
  induction d with
  | zero =>
    intro i k h hk
    obtain ⟨k, rfl⟩ : ∃ z, k = z + 1 := ⟨k - 1, by omega⟩
    rw [clerestoryref1_placeIn.l0, if_neg (by omega), List.drop_eq_nil_of_le (by omega)]
    rfl
  | succ d ih =>
    intro i k h hk
    obtain ⟨k, rfl⟩ : ∃ z, k = z + 1 := ⟨k - 1, by omega⟩
    rw [clerestoryref1_placeIn.l0, if_pos (by omega), if_pos (by omega), w1 i (by omega), ih (i + 1) k (by omega) (by omega), dropK o i (by omega), hasK_cons, idx]
    by_cases c : rd o (i : Int) = x
    · rw [if_pos c, decide_eq_true c, Bool.true_or, if_pos rfl, if_pos c]
      rfl
    · rw [if_neg c, decide_eq_false c, Bool.false_or, if_neg c]
      split
      · congr 1
        omega
      · rfl
theorem place_eq (o : List Int) (x : Int) (ho : o.length ≤ 4611686018427387900) (k : Nat) (hk : o.length < k) : clerestoryref1_placeIn.f k o x = some (idxI o x) := by
  unfold clerestoryref1_placeIn.f
  have := place_l0' o x ho o.length 0 k (by omega) hk
  rw [List.drop_zero, show ((0 : Nat) : Int) = 0 from rfl, Nat.zero_add] at this
  exact this
theorem idxI_mem {l : List Int} {x : Int} (h : x ∈ l) : idxI l x = (idx l x : Int) := if_pos ((mem_hasK l x).2 h)
theorem idx_lt : ∀ {l : List Int} {x : Int}, x ∈ l → idx l x < l.length
  | y :: t, x, h => by
    unfold idx
    by_cases c : y = x
    · rw [if_pos c]; simp
    · rw [if_neg c]
      have := idx_lt (l := t) (x := x) (by
        rcases List.mem_cons.1 h with e | e
        · exact absurd e.symm c
        · exact e)
      simp only [List.length_cons]
      omega
section
variable {ns : List S43} (h : Tree ns) (q : Bool)
include h
theorem kid_len {i : Int} (h0 : 0 ≤ i) (h1 : i < ns.length) : (kidL ns i).length ≤ 200 := by
  have := few_of ns.length (kidL ns i) (h.once i h0 h1) fun x hx => ⟨(h.kid i x h0 h1 hx).1, (h.kid i x h0 h1 hx).2.1⟩
  have := h.many
  omega
theorem beside_eq {x b : Int} (h0 : 0 ≤ x) (h1 : x < ns.length) (hb : b = 1 ∨ b = -1) (k : Nat) (hk : 300 < k) : walk_walker_beside.f k ns q x b = some (q17 ns x b, q) := by
  unfold walk_walker_beside.f
  rw [if_pos h0, if_pos h1]
  show (if par ns x < 0 then _ else _) = _
  unfold q17
  by_cases c : par ns x < 0
  · rw [if_pos c, if_pos c]
  · rw [if_neg c, if_neg c]
    rcases h.up x h0 h1 with hr | ⟨p0, p1, hx⟩
    · omega
    have hl := kid_len h p0 p1
    have hi := idx_lt hx
    show (if 0 ≤ par ns x then (if par ns x < (ns.length : Int) then (slices_Index_int_int.f k (kidL ns (par ns x)) x).bind fun t171 => (if (wrap64 (t171 + b)) < 0 then (some ((-1), q)) else (if (wrap64 (t171 + b)) ≥ ((kidL ns (par ns x)).length : Int) then (some ((-1), q)) else (if 0 ≤ (wrap64 (t171 + b)) then (if (wrap64 (t171 + b)) < ((kidL ns (par ns x)).length : Int) then (some (rd (kidL ns (par ns x)) (wrap64 (t171 + b)), q)) else (none)) else (none)))) else none) else none) = _
    rw [if_pos p0, if_pos p1, index_eq _ _ (by omega) k (by omega), Option.bind_some, idxI_mem hx]
    rw [show wrap64 ((idx (kidL ns (par ns x)) x : Int) + b) = (idx (kidL ns (par ns x)) x : Int) + b by unfold wrap64; omega]
    by_cases c1 : (idx (kidL ns (par ns x)) x : Int) + b < 0
    · rw [if_pos c1, if_pos (.inl c1)]
    · rw [if_neg c1]
      by_cases c2 : (idx (kidL ns (par ns x)) x : Int) + b ≥ ((kidL ns (par ns x)).length : Int)
      · rw [if_pos c2, if_pos (.inr c2)]
      · rw [if_neg c2, if_pos (by omega), if_pos (by omega), if_neg (by omega)]
theorem over_l0 : ∀ (d : Nat) (x : Int), q0m ns x = d → 0 ≤ x → x < ns.length → ∀ k, 302 + d < k → walk_walker_over.l0 k x ns q = some (overI ns (d + 1) x, q)
  | d, x, hd, h0, h1, k, hk => by
    obtain ⟨k, rfl⟩ : ∃ z, k = z + 1 := ⟨k - 1, by omega⟩
    rw [walk_walker_over.l0, if_pos h0, beside_eq h q h0 h1 (.inl rfl) k (by omega), Option.bind_some, overI]
    by_cases c : q17 ns x 1 ≥ 0
    · rw [if_pos c, if_pos c]
    · rw [if_neg c, if_neg c, if_pos h0, if_pos h1]
      show walk_walker_over.l0 k (par ns x) ns q = _
      by_cases c2 : par ns x < 0
      · rw [if_pos c2]
        obtain ⟨k, rfl⟩ : ∃ z, k = z + 1 := ⟨k - 1, by omega⟩
        rw [walk_walker_over.l0, if_neg (by omega)]
      · rw [if_neg c2]
        rcases h.up x h0 h1 with hr | ⟨p0, p1, hx⟩
        · omega
        have hu := deep_up h h0 h1 p0
        obtain ⟨d', rfl⟩ : ∃ d', d = d' + 1 := ⟨d - 1, by omega⟩
        exact over_l0 d' (par ns x) (by omega) p0 p1 k (by omega)
theorem over_eq {x : Int} (h0 : 0 ≤ x) (h1 : x < ns.length) (k : Nat) (hk : 400 < k) : walk_walker_over.f k ns q x = some (overI ns (q0m ns x + 1) x, q) := by
  have := (h.deep x h0 h1).1
  exact over_l0 h q (q0m ns x) x rfl h0 h1 k (by omega)
omit h in
theorem kid_first {x : Int} (h0 : 0 ≤ x) (h1 : x < ns.length) : walk_walker_kid.f ns q x false = some (hdI (kidL ns x), q) := by
  unfold walk_walker_kid.f
  rw [if_pos h0, if_pos h1]
  show (if ((kidL ns x).length : Int) = 0 then some (-1, q) else if false = true then _ else if 0 < ((kidL ns x).length : Int) then some (rd (kidL ns x) 0, q) else none) = _
  cases hk : kidL ns x with
  | nil => rfl
  | cons c t =>
    rw [if_neg (by simp only [List.length_cons]; omega), if_neg Bool.false_ne_true, if_pos (by simp only [List.length_cons]; omega)]
    rfl
theorem kid_last {x : Int} (h0 : 0 ≤ x) (h1 : x < ns.length) : walk_walker_kid.f ns q x true = some (if (kidL ns x).length = 0 then -1 else rd (kidL ns x) ((kidL ns x).length - 1 : Int), q) := by
  have hl := kid_len h h0 h1
  unfold walk_walker_kid.f
  rw [if_pos h0, if_pos h1]
  show (if ((kidL ns x).length : Int) = 0 then some (-1, q) else if true = true then (if 0 ≤ (wrap64 (((kidL ns x).length : Int) - 1)) then (if (wrap64 (((kidL ns x).length : Int) - 1)) < ((kidL ns x).length : Int) then (some (rd (kidL ns x) (wrap64 (((kidL ns x).length : Int) - 1)), q)) else (none)) else (none)) else _) = _
  rw [wm _ (by omega)]
  by_cases c : (kidL ns x).length = 0
  · rw [if_pos (by omega), if_pos c]
  · rw [if_neg (by omega), if_pos rfl, if_pos (by omega), if_pos (by omega), if_neg c]
omit h in
theorem last_mem {x : Int} (hk : (kidL ns x).length ≠ 0) : rd (kidL ns x) ((kidL ns x).length - 1 : Int) ∈ kidL ns x := by
  have : (kidL ns x).drop ((kidL ns x).length - 1) = rd (kidL ns x) (((kidL ns x).length - 1 : Nat) : Int) :: (kidL ns x).drop ((kidL ns x).length - 1 + 1) := dropK _ _ (by omega)
  rw [show ((kidL ns x).length : Int) - 1 = (((kidL ns x).length - 1 : Nat) : Int) by omega]
  exact List.mem_of_mem_drop (this ▸ List.mem_cons_self)
theorem last_l0 : ∀ (d : Nat) (x : Int), 41 - q0m ns x = d → 0 ≤ x → x < ns.length → ∀ k, d + 1 < k → walk_walker_last.l0 k x ns q = some (lastD ns d x, q)
  | 0, x, hd, h0, h1, k, hk => by
    have := (h.deep x h0 h1).1
    omega
  | d + 1, x, hd, h0, h1, k, hk => by
    obtain ⟨k, rfl⟩ : ∃ z, k = z + 1 := ⟨k - 1, by omega⟩
    have e := kid_last h q h0 h1
    rw [lastD]
    by_cases c : (kidL ns x).length = 0
    · rw [if_pos c] at e
      rw [walk_walker_last.l0, e, Option.bind_some, if_neg (show ¬ ((-1 : Int) ≥ 0) by decide), if_pos c]
    · rw [if_neg c] at e
      rw [if_neg c]
      have hm := last_mem c
      obtain ⟨u0, u1, _⟩ := h.kid x _ h0 h1 hm
      have hkd := q1a h h0 h1 hm
      rw [walk_walker_last.l0, e, Option.bind_some, if_pos u0]
      show ((walk_walker_kid.f ns q x true).bind fun bt188 => walk_walker_last.l0 k bt188.1 ns bt188.2) = _
      rw [e, Option.bind_some]
      exact last_l0 d _ (by omega) u0 u1 k (by omega)
theorem beside_in {x b : Int} (h0 : 0 ≤ x) (h1 : x < ns.length) (hb : 0 ≤ q17 ns x b) : q17 ns x b < ns.length := by
  unfold q17 at hb ⊢
  by_cases c : par ns x < 0
  · rw [if_pos c] at hb; omega
  · rw [if_neg c] at hb ⊢
    rcases h.up x h0 h1 with hr | ⟨p0, p1, hx⟩
    · omega
    by_cases c1 : (idx (kidL ns (par ns x)) x : Int) + b < 0 ∨ (idx (kidL ns (par ns x)) x : Int) + b ≥ ((kidL ns (par ns x)).length : Int)
    · rw [if_pos c1] at hb; omega
    · rw [if_neg c1] at hb ⊢
      obtain ⟨m, hm⟩ : ∃ m : Nat, (idx (kidL ns (par ns x)) x : Int) + b = (m : Int) := ⟨((idx (kidL ns (par ns x)) x : Int) + b).toNat, by omega⟩
      rw [hm]
      have hd := dropK (kidL ns (par ns x)) m (by omega)
      exact (h.kid (par ns x) _ p0 p1 (List.mem_of_mem_drop (hd ▸ List.mem_cons_self))).2.1
theorem last_eq {x : Int} (h0 : 0 ≤ x) (h1 : x < ns.length) (k : Nat) (hk : 400 < k) : walk_walker_last.f k ns q x = some (lastI ns x, q) := by
  unfold walk_walker_last.f lastI
  rw [beside_eq h q h0 h1 (.inr rfl) k (by omega), Option.bind_some]
  by_cases c : q17 ns x (-1) < 0
  · rw [if_pos c, if_pos c, if_pos h0, if_pos h1]
    rfl
  · rw [if_neg c, if_neg c]
    exact last_l0 h q _ _ rfl (by omega) (beside_in h h0 h1 (by omega)) k (by omega)
theorem next_eq {x : Int} (h0 : 0 ≤ x) (h1 : x < ns.length) (k : Nat) (hk : 400 < k) : walk_walker_next.f k ns q x = some (if (kidL ns x) = [] then overI ns (q0m ns x + 1) x else hdI (kidL ns x), q) := by
  unfold walk_walker_next.f
  rw [kid_first q h0 h1, Option.bind_some]
  cases hkl : kidL ns x with
  | nil =>
    rw [if_neg (show ¬ ((hdI []) ≥ 0) by decide), over_eq h q h0 h1 k hk, Option.bind_some, if_pos rfl]
  | cons c t =>
    have hc : c ∈ kidL ns x := by rw [hkl]; simp
    rw [if_pos (show hdI (c :: t) ≥ 0 from (h.kid x c h0 h1 hc).1), if_neg (by simp)]
end
end Go.Proofs.YthjnallbbhnndaaDoor.Dm
namespace Go.Proofs.YthjnallbbhnndaaDoor.Dm
open Go Go.RowKit Go.Proofs.YthjnallbbhnndaaDoor.XWp Go.Proofs.YthjnallbbhnndaaDoorW.PrintWords Go.Proofs.YthjnallbbhnndaaDoorW.PrintLast
theorem rd_set (l : List Int) (a m : Nat) (v : Int) (ha : a < l.length) : rd (l.set a v) (m : Int) = if m = a then v else rd l (m : Int) := by
  unfold rd
  simp only [List.getD_eq_getElem?_getD, List.getElem?_set, Int.toNat_natCast]
  by_cases h : m = a
  · subst h; simp [ha]
  · rw [if_neg (fun e => h e.symm), if_neg h]
theorem rev_l0 (l : List Int) (hl : l.length ≤ 4611686018427387900) (d : Nat) : ∀ (x : List Int) (i k : Nat), x.length = l.length → l.length - 2 * i ≤ d → 2 * i ≤ l.length + 1 → d < k → (∀ m : Nat, m < l.length → rd x (m : Int) = if m < i ∨ l.length - 1 - i < m then rd l ((l.length - 1 - m : Nat) : Int) else rd l (m : Int)) →
    ∃ r, slices_Reverse_int_int.l0 k x (i : Int) ((l.length : Int) - 1 - i) = some r ∧ r.length = l.length ∧ ∀ m : Nat, m < l.length → rd r (m : Int) = rd l ((l.length - 1 - m : Nat) : Int) := by
  induction d with
  | zero =>
    intro x i k hx hd h2 hk hI
    obtain ⟨k, rfl⟩ : ∃ z, k = z + 1 := ⟨k - 1, by omega⟩
    refine ⟨x, by rw [slices_Reverse_int_int.l0, if_neg (by omega)], hx, fun m hm => ?_⟩
    rw [hI m hm]
    split
    · rfl
    · rw [show l.length - 1 - m = m by omega]
  | succ d ih =>
    intro x i k hx hd h2 hk hI
    obtain ⟨k, rfl⟩ : ∃ z, k = z + 1 := ⟨k - 1, by omega⟩
    by_cases c : (i : Int) < (l.length : Int) - 1 - i
    · obtain ⟨j, hj⟩ : ∃ j : Nat, (l.length : Int) - 1 - i = (j : Int) := ⟨l.length - 1 - i, by omega⟩
      rw [slices_Reverse_int_int.l0, if_pos c, hj, if_pos (by omega), if_pos (by omega), if_pos (by omega), if_pos (by omega)]
      rw [w1 i (by omega), wm j (by omega), show ((i : Nat) : Int).toNat = i from rfl, show ((j : Nat) : Int).toNat = j from rfl, show (j : Int) - 1 = (l.length : Int) - 1 - ((i + 1 : Nat) : Int) by omega]
      refine ih _ (i + 1) k (by rw [List.length_set, List.length_set]; exact hx) (by omega) (by omega) (by omega) fun m hm => ?_
      have ii := hI i (by omega)
      have ij := hI j (by omega)
      rw [rd_set _ _ _ _ (by rw [List.length_set]; omega), rd_set _ _ _ _ (by omega)]
      by_cases m1 : m = j
      · rw [if_pos m1, if_pos (by omega), ii, if_neg (by omega), show l.length - 1 - m = i by omega]
      · rw [if_neg m1]
        by_cases m2 : m = i
        · rw [if_pos m2, if_pos (by omega), ij, if_neg (by omega), show l.length - 1 - m = j by omega]
        · rw [if_neg m2, hI m hm]
          by_cases m3 : m < i ∨ l.length - 1 - i < m
          · rw [if_pos m3, if_pos (by omega)]
          · rw [if_neg m3, if_neg (by omega)]
    · refine ⟨x, by rw [slices_Reverse_int_int.l0, if_neg c], hx, fun m hm => ?_⟩
      rw [hI m hm]
      split
      · rfl
      · rw [show l.length - 1 - m = m by omega]
theorem rev_eq (l : List Int) (hl : l.length ≤ 4611686018427387900) (k : Nat) (hk : l.length < k) : ∃ r, slices_Reverse_int_int.f k l = some r ∧ r.length = l.length ∧ ∀ m : Nat, m < l.length → rd r (m : Int) = rd l ((l.length - 1 - m : Nat) : Int) := by
  unfold slices_Reverse_int_int.f
  by_cases c : l.length = 0
  · obtain ⟨k, rfl⟩ : ∃ z, k = z + 1 := ⟨k - 1, by omega⟩
    refine ⟨l, ?_, rfl, fun m hm => by omega⟩
    rw [slices_Reverse_int_int.l0, wm _ (by omega), if_neg (by omega)]
  · have := rev_l0 l hl l.length l 0 k rfl (by omega) (by omega) hk (fun m hm => by rw [if_neg (by omega)])
    rw [wm _ (by omega)]
    simpa using this
def chainL (ns : List S43) : Nat → Int → List Int
  | 0, x => [x]
  | d + 1, x => x :: chainL ns d (par ns x)
theorem chain_len (ns : List S43) : ∀ (d : Nat) (x : Int), (chainL ns d x).length = d + 1
  | 0, _ => rfl
  | d + 1, x => by simp [chainL, chain_len ns d]
theorem chain_last (ns : List S43) : ∀ (d : Nat) (x : Int), rd (chainL ns d x) (d : Int) = upN ns d x
  | 0, _ => rfl
  | d + 1, x => by
    have := chain_last ns d (par ns x)
    simpa [rd, List.getD, chainL, upN] using this
section
variable {ns : List S43} (h : Tree ns) (q : Bool)
include h
set_option maxRecDepth 10000 in
theorem path_l0 : ∀ (d : Nat) (x : Int), q0m ns x = d → 0 ≤ x → x < ns.length → ∀ (o : List Int) (k : Nat), o.length + d + 1 ≤ 100 → d + 110 < k → ∃ r, walk_walker_path.l0 k x o ns q = some (r, q) ∧ r.length = o.length + (d + 1) ∧ ∀ m : Nat, m < r.length → rd r (m : Int) = rd (o ++ chainL ns d x) ((r.length - 1 - m : Nat) : Int)
  | d, x, hd, h0, h1, o, k, ho, hk => by
    obtain ⟨k, rfl⟩ : ∃ z, k = z + 1 := ⟨k - 1, by omega⟩
    rw [walk_walker_path.l0, if_pos h0, if_pos (by omega), if_pos h0, if_pos h1]
    show ∃ r, walk_walker_path.l0 k (par ns x) (o ++ [x]) ns q = some (r, q) ∧ _
    by_cases c : par ns x < 0
    · have hd0 := deep_root h c
      obtain rfl : d = 0 := by omega
      obtain ⟨k, rfl⟩ : ∃ z, k = z + 1 := ⟨k - 1, by omega⟩
      obtain ⟨r, hr1, hr2, hr3⟩ := rev_eq (o ++ [x]) (by rw [List.length_append]; simp only [List.length_cons, List.length_nil]; omega) k (by rw [List.length_append]; simp only [List.length_cons, List.length_nil]; omega)
      refine ⟨r, by rw [walk_walker_path.l0, if_neg (by omega), hr1, Option.bind_some], by rw [hr2]; simp, fun m hm => ?_⟩
      rw [hr3 m (by omega), hr2]
      rfl
    · rcases h.up x h0 h1 with hr | ⟨p0, p1, hx⟩
      · omega
      have hu := deep_up h h0 h1 p0
      obtain ⟨d', rfl⟩ : ∃ d', d = d' + 1 := ⟨d - 1, by omega⟩
      obtain ⟨r, hr1, hr2, hr3⟩ := path_l0 d' (par ns x) (by omega) p0 p1 (o ++ [x]) k (by rw [List.length_append]; simp only [List.length_cons, List.length_nil]; omega) (by omega)
      refine ⟨r, hr1, by rw [hr2, List.length_append]; simp only [List.length_cons, List.length_nil]; omega, fun m hm => ?_⟩
      rw [hr3 m hm, List.append_assoc]
      rfl
theorem path_eq {x : Int} (h0 : 0 ≤ x) (h1 : x < ns.length) (k : Nat) (hk : 1100 < k) : ∃ r, walk_walker_path.f k ns q x = some (r, q) ∧ 0 < r.length ∧ rd r 0 = upN ns (q0m ns x) x := by
  have hd := (h.deep x h0 h1).1
  obtain ⟨r, h1', h2, h3⟩ := path_l0 h q (q0m ns x) x rfl h0 h1 [] k (by simp; omega) (by omega)
  simp only [List.length_nil, Nat.zero_add, List.nil_append] at h2 h3
  refine ⟨r, h1', by omega, ?_⟩
  have := h3 0 (by omega)
  rw [show ((0 : Nat) : Int) = 0 from rfl, h2] at this
  rw [this, show q0m ns x + 1 - 1 - 0 = q0m ns x by omega]
  exact chain_last ns _ x
theorem off_one {x : Int} (h0 : 0 ≤ x) (h1 : x < ns.length) (k : Nat) (hk : 1100 < k) : walk_check.offR k ns q [x] = some (if upN ns (q0m ns x) x = 0 then 0 else 5) := by
  obtain ⟨r, hr1, hr2, hr3⟩ := path_eq h q h0 h1 k hk
  unfold walk_check.offR
  rw [hr1, Option.bind_some, if_pos ⟨hr2, rfl⟩]
  show (if rd r 0 = 0 then _ else _) = _
  rw [hr3]
  split <;> rfl
theorem under_l0 : ∀ (d : Nat) (x : Int), q0m ns x = d → 0 ≤ x → x < ns.length → ∀ k, d + 1 < k → clerestoryref1_Under.l0 k x 0 ns q = some (decide (upN ns d x = 0))
  | d, x, hd, h0, h1, k, hk => by
    obtain ⟨k, rfl⟩ : ∃ z, k = z + 1 := ⟨k - 1, by omega⟩
    rw [clerestoryref1_Under.l0]
    by_cases c0 : x = 0
    · subst c0
      have := deep_root h (i := 0) (by rw [h.root]; decide)
      obtain rfl : d = 0 := by omega
      rw [if_pos rfl]
      rfl
    · rw [if_neg c0, if_pos h0, if_pos h0, if_pos h1]
      show clerestoryref1_Under.l0 k (par ns x) 0 ns q = _
      by_cases c : par ns x < 0
      · have hd0 := deep_root h c
        obtain rfl : d = 0 := by omega
        obtain ⟨k, rfl⟩ : ∃ z, k = z + 1 := ⟨k - 1, by omega⟩
        rw [clerestoryref1_Under.l0, if_neg (by omega), if_neg (by omega)]
        have e1 : (par ns x == 0) = false := beq_eq_false_iff_ne.2 (by omega)
        rw [e1, show upN ns 0 x = x from rfl, decide_eq_false c0]
      · rcases h.up x h0 h1 with hr | ⟨p0, p1, hx⟩
        · omega
        have hu := deep_up h h0 h1 p0
        obtain ⟨d', rfl⟩ : ∃ d', d = d' + 1 := ⟨d - 1, by omega⟩
        exact under_l0 d' (par ns x) (by omega) p0 p1 k (by omega)
theorem under_eq {x : Int} (h0 : 0 ≤ x) (h1 : x < ns.length) (k : Nat) (hk : 50 < k) : clerestoryref1_Under.f k ns q x 0 = some (decide (upN ns (q0m ns x) x = 0)) := by
  have hd := (h.deep x h0 h1).1
  exact under_l0 h q _ x rfl h0 h1 k (by omega)
end
end Go.Proofs.YthjnallbbhnndaaDoor.Dm
namespace Go.Proofs.YthjnallbbhnndaaDoor.Dm
open Go Go.RowKit Go.Proofs.YthjnallbbhnndaaDoor.XWp Go.Proofs.YthjnallbbhnndaaDoorW.PrintWords Go.Proofs.YthjnallbbhnndaaDoorW.PrintLast
set_option maxRecDepth 10000
def offB (ns : List S43) (ll : List Int) : Bool := ll.any fun n => decide (upN ns (q0m ns n) n ≠ 0)
def errW (ns : List S43) (ll : List Int) : Int := if walk_check.outR ns ll = true then 1 else if offB ns ll = true then 5 else 0
theorem outR_in (ns : List S43) : ∀ ll : List Int, walk_check.outR ns ll = false → ∀ n ∈ ll, 0 ≤ n ∧ n < ns.length
  | m :: t, h, n, hn => by
    simp only [walk_check.outR, Bool.or_eq_false_iff, decide_eq_false_iff_not] at h
    rcases List.mem_cons.1 hn with rfl | hn
    · omega
    · exact outR_in ns t h.2.2 n hn
theorem outR_not (ns : List S43) : ∀ ll : List Int, (∀ n ∈ ll, 0 ≤ n ∧ n < ns.length) → walk_check.outR ns ll = false
  | [], _ => rfl
  | m :: t, h => by
    have h1 := h m (by simp)
    simp only [walk_check.outR, Bool.or_eq_false_iff, decide_eq_false_iff_not]
    exact ⟨by omega, by omega, outR_not ns t fun n hn => h n (List.mem_cons_of_mem _ hn)⟩
section
variable {ns : List S43}
theorem we_l1_ne (q : Bool) (ll : List Int) {e : Int} (he : e ≠ 0) (i : Int) (k : Nat) (hk : 2 ≤ k) : clerestoryref1_WalkErr.l1 k ll e i ns q = some e := by
  obtain ⟨k, rfl⟩ : ∃ z, k = z + 2 := ⟨k - 2, by omega⟩
  rw [clerestoryref1_WalkErr.l1]
  have hb : (e == 0) = false := beq_eq_false_iff_ne.2 he
  split
  · rw [hb, clerestoryref1_WalkErr.j3, if_neg Bool.false_ne_true]
  · rw [clerestoryref1_WalkErr.j3, if_neg Bool.false_ne_true]
theorem we_l0_ne (q : Bool) (ll : List Int) {e : Int} (he : e ≠ 0) (i : Int) (k : Nat) (hk : 4 ≤ k) : clerestoryref1_WalkErr.l0 k ll e i ns q = some e := by
  obtain ⟨k, rfl⟩ : ∃ z, k = z + 2 := ⟨k - 2, by omega⟩
  rw [clerestoryref1_WalkErr.l0]
  have hb : (e == 0) = false := beq_eq_false_iff_ne.2 he
  split
  · rw [hb, clerestoryref1_WalkErr.j1, if_neg Bool.false_ne_true]
    exact we_l1_ne q ll he 0 k (by omega)
  · rw [clerestoryref1_WalkErr.j1, if_neg Bool.false_ne_true]
    exact we_l1_ne q ll he 0 k (by omega)
variable (h : Tree ns)
include h
theorem off_all (q : Bool) (k : Nat) (hk : 1100 < k) : ∀ ll : List Int, (∀ n ∈ ll, 0 ≤ n ∧ n < ns.length) → walk_check.offR k ns q ll = some (if offB ns ll = true then 5 else 0)
  | [], _ => rfl
  | n :: t, hl => by
    obtain ⟨h0, h1⟩ := hl n (by simp)
    obtain ⟨r, hr1, hr2, hr3⟩ := path_eq h q h0 h1 k hk
    have ih := off_all q k hk t fun m hm => hl m (List.mem_cons_of_mem _ hm)
    rw [walk_check.offR, hr1, Option.bind_some, if_pos ⟨hr2, rfl⟩]
    show (if rd r 0 = 0 then _ else _) = _
    rw [hr3, ih]
    have e : offB ns (n :: t) = (decide (upN ns (q0m ns n) n ≠ 0) || offB ns t) := rfl
    rw [e]
    by_cases c : upN ns (q0m ns n) n = 0
    · rw [if_pos c, decide_eq_false (fun hc => hc c), Bool.false_or]
    · rw [if_neg c, decide_eq_true c, Bool.true_or, if_pos rfl]
theorem we_l1 (q : Bool) (ll : List Int) (hll : ll.length ≤ 1000) (hr : ∀ n ∈ ll, 0 ≤ n ∧ n < ns.length) : ∀ (d i k : Nat), i + d = ll.length → 2 * d + 60 < k → clerestoryref1_WalkErr.l1 k ll 0 (i : Int) ns q = some (if offB ns (ll.drop i) = true then 5 else 0)
  | 0, i, k, hi, hk => by
    obtain ⟨k, rfl⟩ : ∃ z, k = z + 2 := ⟨k - 2, by omega⟩
    rw [clerestoryref1_WalkErr.l1, if_neg (by omega), clerestoryref1_WalkErr.j3, if_neg Bool.false_ne_true, List.drop_eq_nil_of_le (by omega)]
    rfl
  | d + 1, i, k, hi, hk => by
    obtain ⟨k, rfl⟩ : ∃ z, k = z + 2 := ⟨k - 2, by omega⟩
    have hlt : i < ll.length := by omega
    have hm : rd ll (i : Int) ∈ ll := by
      have e : rd ll (i : Int) = ll[i] := by simp [rd, List.getD, hlt]
      rw [e]; exact List.getElem_mem hlt
    obtain ⟨h0, h1⟩ := hr _ hm
    rw [clerestoryref1_WalkErr.l1, if_pos (by omega), show ((0 : Int) == 0) = true from rfl, clerestoryref1_WalkErr.j3, if_pos rfl, if_pos (by omega), if_pos (by omega), under_eq h q h0 h1 _ (by omega), Option.bind_some, w1 _ (by omega), walk_check.dropL ll i hlt]
    have e : offB ns (rd ll (i : Int) :: ll.drop (i + 1)) = (decide (upN ns (q0m ns (rd ll (i : Int))) (rd ll (i : Int)) ≠ 0) || offB ns (ll.drop (i + 1))) := rfl
    rw [e]
    by_cases c : upN ns (q0m ns (rd ll (i : Int))) (rd ll (i : Int)) = 0
    · rw [if_pos (decide_eq_true c), we_l1 q ll hll hr d (i + 1) k (by omega) (by omega), decide_eq_false (fun hc => hc c), Bool.false_or]
    · rw [if_neg (by rw [decide_eq_false c]; exact Bool.false_ne_true), we_l1_ne q ll (by decide) _ k (by omega), decide_eq_true c, Bool.true_or, if_pos rfl]
theorem we_l0 (q : Bool) (ll : List Int) (hll : ll.length ≤ 1000) : ∀ (d i k : Nat), i + d = ll.length → 2 * d + 2 * ll.length + 70 < k → (∀ n ∈ ll.take i, 0 ≤ n ∧ n < ns.length) → clerestoryref1_WalkErr.l0 k ll 0 (i : Int) ns q = some (errW ns ll)
  | 0, i, k, hi, hk, hr => by
    obtain ⟨k, rfl⟩ : ∃ z, k = z + 2 := ⟨k - 2, by omega⟩
    rw [List.take_of_length_le (by omega)] at hr
    rw [clerestoryref1_WalkErr.l0, if_neg (by omega), clerestoryref1_WalkErr.j1, if_neg Bool.false_ne_true]
    have := we_l1 h q ll hll hr ll.length 0 k (by omega) (by omega)
    rw [show ((0 : Nat) : Int) = 0 from rfl, List.drop_zero] at this
    rw [this, errW, outR_not ns ll hr]
    rfl
  | d + 1, i, k, hi, hk, hr => by
    obtain ⟨k, rfl⟩ : ∃ z, k = z + 2 := ⟨k - 2, by omega⟩
    have hlt : i < ll.length := by omega
    have hm := h.many
    have hm0 := h.some_
    have e : rd ll (i : Int) = ll[i] := by simp [rd, List.getD, hlt]
    have hmem : rd ll (i : Int) ∈ ll := by rw [e]; exact List.getElem_mem hlt
    rw [clerestoryref1_WalkErr.l0, if_pos (by omega), show ((0 : Int) == 0) = true from rfl, clerestoryref1_WalkErr.j1, if_pos rfl, if_pos (by omega), if_pos (by omega), wm _ (by omega), w1 _ (by omega)]
    unfold clerestoryref1_between.f
    have bad : ¬ (0 ≤ rd ll (i : Int) ∧ rd ll (i : Int) < ns.length) → errW ns ll = 1 := fun hb => by
      rw [errW, if_pos]
      cases ho : walk_check.outR ns ll with
      | true => rfl
      | false => exact absurd (outR_in ns ll ho _ hmem) hb
    by_cases c0 : rd ll (i : Int) ≥ 0
    · rw [if_pos c0, Option.bind_some]
      by_cases c1 : rd ll (i : Int) < (ns.length : Int)
      · rw [if_pos (decide_eq_true (by omega))]
        refine we_l0 q ll hll d (i + 1) k (by omega) (by omega) fun n hn => ?_
        rw [takeK ll i hlt] at hn
        rcases List.mem_append.1 hn with hn | hn
        · exact hr n hn
        · rw [List.mem_singleton.1 hn]
          exact ⟨c0, c1⟩
      · rw [if_neg (by rw [decide_eq_false (by omega)]; exact Bool.false_ne_true), we_l0_ne q ll (by decide) _ k (by omega), bad (by omega)]
    · rw [if_neg c0, Option.bind_some, if_neg Bool.false_ne_true, we_l0_ne q ll (by decide) _ k (by omega), bad (by omega)]
end
theorem walkErr_all (ns : List S43) (q : Bool) (ll : List Int) (hll : ll.length ≤ 1000) (D : Int) (hD : docE ns = D) (k : Nat) (hk : 5000 < k) (hd : clerestoryref1_DocErr.f k ns q = some D) : clerestoryref1_WalkErr.f k ns q ll = some (if D = 0 then errW ns ll else D) := by
  unfold clerestoryref1_WalkErr.f
  rw [hd, Option.bind_some]
  by_cases c : D = 0
  · subst c
    rw [if_pos rfl]
    exact we_l0 (tree_of hD) q ll hll ll.length 0 k (by omega) (by omega) (by simp)
  · rw [if_neg c]
    exact we_l0_ne q ll c 0 k (by omega)
theorem check_all (ns : List S43) (q : Bool) (ll : List Int) (D : Int) (hD : docE ns = D) (k : Nat) (hk : 5000 < k) (hc : dom_Check.f k ns q = some D) : walk_check.f k ns q ll = some (if D = 0 then errW ns ll else D) := by
  unfold walk_check.f
  rw [hc, Option.bind_some]
  by_cases c : D = 0
  · subst c
    rw [if_pos rfl, if_pos rfl, errW]
    cases ho : walk_check.outR ns ll with
    | true => rfl
    | false =>
      rw [if_neg Bool.false_ne_true, if_neg Bool.false_ne_true]
      exact off_all (tree_of hD) q k (by omega) ll (outR_in ns ll ho)
  · rw [if_neg c, if_neg c]
theorem errW_zero {ns : List S43} (h : Tree ns) {ll : List Int} (he : errW ns ll = 0) : ∀ n ∈ ll, 0 ≤ n ∧ n < ns.length ∧ n ∈ sub ns 0 := by
  intro n hn
  unfold errW at he
  cases ho : walk_check.outR ns ll with
  | true => rw [ho, if_pos rfl] at he; exact absurd he (by decide)
  | false =>
    rw [ho, if_neg Bool.false_ne_true] at he
    cases hf : offB ns ll with
    | true => rw [hf, if_pos rfl] at he; exact absurd he (by decide)
    | false =>
      obtain ⟨h0, h1⟩ := outR_in ns ll ho n hn
      have hu : upN ns (q0m ns n) n = 0 := by
        unfold offB at hf
        rw [List.any_eq_false] at hf
        have := hf n hn
        by_cases c : upN ns (q0m ns n) n = 0
        · exact c
        · exact absurd (decide_eq_true c) this
      obtain ⟨A, B, hs, _⟩ := way h (q0m ns n) n rfl h0 h1 hu
      refine ⟨h0, h1, ?_⟩
      rw [hs, sub_eq h h0 h1]
      simp
end Go.Proofs.YthjnallbbhnndaaDoor.Dm
namespace Go.Proofs.YthjnallbbhnndaaDoor.Dm
open Go Go.RowKit Go.Proofs.YthjnallbbhnndaaDoor.XWp Go.Proofs.YthjnallbbhnndaaDoorW.PrintWords Go.Proofs.YthjnallbbhnndaaDoorW.PrintLast
set_option maxRecDepth 10000
def relP (ns : List S43) : Nat → Int → List Int
  | 0, x => [x]
  | d + 1, x => upN ns (d + 1) x :: relP ns d x
theorem relP_len (ns : List S43) : ∀ (d : Nat) (x : Int), (relP ns d x).length = d + 1
  | 0, _ => rfl
  | d + 1, x => by simp [relP, relP_len ns d]
theorem rd_zero (x : Int) (l : List Int) : rd (x :: l) 0 = x := rfl
theorem rd_succ (x : Int) (l : List Int) (m : Nat) : rd (x :: l) ((m + 1 : Nat) : Int) = rd l (m : Int) := by
  simp [rd, List.getD]
theorem relP_rd (ns : List S43) : ∀ (d : Nat) (x : Int) (m : Nat), m ≤ d → rd (relP ns d x) (m : Int) = upN ns (d - m) x
  | 0, x, 0, _ => rfl
  | d + 1, x, 0, _ => rfl
  | d + 1, x, m + 1, h => by
    rw [relP, rd_succ, relP_rd ns d x m (by omega), show d + 1 - (m + 1) = d - m by omega]
theorem chain_rd (ns : List S43) : ∀ (d : Nat) (x : Int) (m : Nat), m ≤ d → rd (chainL ns d x) (m : Int) = upN ns m x
  | 0, x, 0, _ => rfl
  | d + 1, x, 0, _ => rfl
  | d + 1, x, m + 1, h => by
    rw [chainL, rd_succ, chain_rd ns d _ m (by omega)]
    rfl
theorem list_ext_rd : ∀ (l m : List Int), l.length = m.length → (∀ j : Nat, j < l.length → rd l (j : Int) = rd m (j : Int)) → l = m
  | [], [], _, _ => rfl
  | [], _ :: _, h, _ => by simp at h
  | _ :: _, [], h, _ => by simp at h
  | x :: l, y :: m, h, hj => by
    have h0 := hj 0 (by simp)
    rw [show ((0 : Nat) : Int) = 0 from rfl, rd_zero, rd_zero] at h0
    rw [h0, list_ext_rd l m (by simpa using h) fun j hjl => by
      have := hj (j + 1) (by simp only [List.length_cons]; omega)
      rwa [rd_succ, rd_succ] at this]
theorem rd_mem {l : List Int} {m : Nat} (h : m < l.length) : rd l (m : Int) ∈ l := by
  have e : rd l (m : Int) = l[m] := by simp [rd, List.getD, h]
  rw [e]
  exact List.getElem_mem h
section
variable {ns : List S43} (h : Tree ns)
include h
theorem path_rel (q : Bool) {x : Int} (h0 : 0 ≤ x) (h1 : x < ns.length) (k : Nat) (hk : 1100 < k) : walk_walker_path.f k ns q x = some (relP ns (q0m ns x) x, q) := by
  have hd := (h.deep x h0 h1).1
  obtain ⟨r, h1', h2, h3⟩ := path_l0 h q (q0m ns x) x rfl h0 h1 [] k (by simp; omega) (by omega)
  simp only [List.length_nil, Nat.zero_add, List.nil_append] at h2 h3
  have e : r = relP ns (q0m ns x) x := by
    refine list_ext_rd _ _ (by rw [h2, relP_len]) fun j hj => ?_
    rw [h3 j hj, h2, chain_rd ns _ _ _ (by omega), relP_rd ns _ _ _ (by omega), show q0m ns x + 1 - 1 - j = q0m ns x - j by omega]
  rw [← e]
  exact h1'
theorem under_rel (q : Bool) {t : Int} (ht : 0 ≤ t) : ∀ (d : Nat) (x : Int), q0m ns x = d → 0 ≤ x → x < ns.length → ∀ k, d + 1 < k → clerestoryref1_Under.l0 k x t ns q = some (decide (t ∈ relP ns d x))
  | d, x, hd, h0, h1, k, hk => by
    obtain ⟨k, rfl⟩ : ∃ z, k = z + 1 := ⟨k - 1, by omega⟩
    rw [clerestoryref1_Under.l0]
    have hm : ∀ e y, y ∈ relP ns e y := fun e y => by induction e <;> simp [relP, *]
    by_cases c0 : x = t
    · subst c0
      rw [if_pos rfl, decide_eq_true (hm _ _)]
      simp
    · rw [if_neg c0, if_pos h0, if_pos h0, if_pos h1]
      show clerestoryref1_Under.l0 k (par ns x) t ns q = _
      by_cases c : par ns x < 0
      · have hd0 := deep_root h c
        obtain rfl : d = 0 := by omega
        obtain ⟨k, rfl⟩ : ∃ z, k = z + 1 := ⟨k - 1, by omega⟩
        rw [clerestoryref1_Under.l0, if_neg (by omega), if_neg (by omega)]
        have e1 : (par ns x == t) = false := beq_eq_false_iff_ne.2 (by omega)
        rw [e1, decide_eq_false (by simp [relP]; omega)]
      · rcases h.up x h0 h1 with hr | ⟨p0, p1, hx⟩
        · omega
        have hu := deep_up h h0 h1 p0
        obtain ⟨d', rfl⟩ : ∃ d', d = d' + 1 := ⟨d - 1, by omega⟩
        rw [under_rel q ht d' (par ns x) (by omega) p0 p1 k (by omega)]
        congr 1
        have e : ∀ e, t ∈ relP ns (e + 1) x ↔ t ∈ relP ns e (par ns x) := fun e => by
          induction e with
          | zero => simp [relP, upN]; intro hh; exact absurd hh.symm c0
          | succ e ih =>
            show t ∈ upN ns (e + 2) x :: relP ns (e + 1) x ↔ t ∈ upN ns (e + 1) (par ns x) :: relP ns e (par ns x)
            rw [List.mem_cons, List.mem_cons, ih]
            rfl
        exact decide_eq_decide.2 (e d').symm
theorem under_all (q : Bool) {x t : Int} (h0 : 0 ≤ x) (h1 : x < ns.length) (ht : 0 ≤ t) (k : Nat) (hk : 50 < k) : clerestoryref1_Under.f k ns q x t = some (decide (t ∈ relP ns (q0m ns x) x)) := by
  have hd := (h.deep x h0 h1).1
  exact under_rel h q ht _ x rfl h0 h1 k (by omega)
theorem sub_kid {i x : Int} (h0 : 0 ≤ i) (h1 : i < ns.length) (hx : x ∈ sub ns i) (hne : x ≠ i) : ∃ c ∈ kidL ns i, x ∈ sub ns c ∧ relP ns (q0m ns x - q0m ns i) x = i :: relP ns (q0m ns x - q0m ns c) x := by
  have hx0 := hx
  rw [sub_eq h h0 h1] at hx
  rcases List.mem_cons.1 hx with e | hx
  · exact absurd e hne
  · obtain ⟨c, hc, hxc⟩ := List.mem_flatMap.1 hx
    obtain ⟨c0, c1, cp⟩ := h.kid i c h0 h1 hc
    have hk := q1a h h0 h1 hc
    obtain ⟨x0, x1, x2, x3⟩ := q1d h c0 c1 hxc
    obtain ⟨_, _, y2, y3⟩ := q1d h h0 h1 hx0
    refine ⟨c, hc, hxc, ?_⟩
    rw [show q0m ns x - q0m ns i = (q0m ns x - q0m ns c) + 1 by omega] at y3 ⊢
    rw [relP, y3]
omit h in
theorem rel_self (i : Int) : relP ns (q0m ns i - q0m ns i) i = [i] := by rw [Nat.sub_self]; rfl
theorem self_mem {i : Int} (h0 : 0 ≤ i) (h1 : i < ns.length) : i ∈ sub ns i := by rw [sub_eq h h0 h1]; simp
theorem rel_head {i x : Int} (h0 : 0 ≤ i) (h1 : i < ns.length) (hx : x ∈ sub ns i) : ∃ t, relP ns (q0m ns x - q0m ns i) x = i :: t := by
  by_cases e : x = i
  · subst e; exact ⟨[], rel_self x⟩
  · obtain ⟨c, _, _, hr⟩ := sub_kid h h0 h1 hx e
    exact ⟨_, hr⟩
theorem rel_sub : ∀ (D : Nat) (i x : Int), 41 - q0m ns i ≤ D → 0 ≤ i → i < ns.length → x ∈ sub ns i → ∀ y ∈ relP ns (q0m ns x - q0m ns i) x, y ∈ sub ns i
  | 0, i, x, hD, h0, h1, hx, y, hy => by
    have := (h.deep i h0 h1).1
    omega
  | D + 1, i, x, hD, h0, h1, hx, y, hy => by
    by_cases e : x = i
    · subst e
      rw [rel_self] at hy
      rw [List.mem_singleton.1 hy]
      exact hx
    · obtain ⟨c, hc, hxc, hr⟩ := sub_kid h h0 h1 hx e
      obtain ⟨c0, c1, cp⟩ := h.kid i c h0 h1 hc
      have hk := q1a h h0 h1 hc
      rw [hr] at hy
      rcases List.mem_cons.1 hy with rfl | hy
      · exact self_mem h h0 h1
      · have := rel_sub D c x (by omega) c0 c1 hxc y hy
        rw [sub_eq h h0 h1]
        exact List.mem_cons_of_mem _ (List.mem_flatMap.2 ⟨c, hc, this⟩)
theorem kid_one {i c c' x : Int} (h0 : 0 ≤ i) (h1 : i < ns.length) (hc : c ∈ kidL ns i) (hc' : c' ∈ kidL ns i) (hx : x ∈ sub ns c) (hx' : x ∈ sub ns c') : c = c' := by
  obtain ⟨c0, c1, _⟩ := h.kid i c h0 h1 hc
  obtain ⟨d0, d1, _⟩ := h.kid i c' h0 h1 hc'
  have e := (q1d h c0 c1 hx).2.2.2
  have e' := (q1d h d0 d1 hx').2.2.2
  rw [q1a h h0 h1 hc] at e
  rw [q1a h h0 h1 hc'] at e'
  exact e.symm.trans e'
theorem kid_sub_ne {i c : Int} (h0 : 0 ≤ i) (h1 : i < ns.length) (hc : c ∈ kidL ns i) : i ∉ sub ns c := by
  obtain ⟨c0, c1, _⟩ := h.kid i c h0 h1 hc
  intro hx
  have := (q1d h c0 c1 hx).2.2.1
  have := q1a h h0 h1 hc
  omega
end
def befL : List Int → Int → Int → Bool
  | [], _, _ => false
  | n :: t, a, b => if n = b then false else (decide (n = a) || befL t a b)
theorem befL_not (a b : Int) : ∀ l : List Int, a ∉ l → befL l a b = false
  | [], _ => rfl
  | n :: t, h => by
    rw [befL, befL_not a b t (fun hh => h (List.mem_cons_of_mem _ hh)), decide_eq_false (fun e : n = a => h (by rw [e]; simp))]
    split <;> rfl
theorem befL_in (a b : Int) (v : List Int) : ∀ u : List Int, b ∈ u → befL (u ++ v) a b = befL u a b
  | n :: t, h => by
    rw [List.cons_append, befL, befL]
    by_cases c : n = b
    · rw [if_pos c, if_pos c]
    · rw [if_neg c, if_neg c, befL_in a b v t (by rcases List.mem_cons.1 h with e | e; exact absurd e.symm c; exact e)]
theorem befL_out (a b : Int) (v : List Int) : ∀ u : List Int, b ∉ u → befL (u ++ v) a b = (decide (a ∈ u) || befL v a b)
  | [], _ => by simp
  | n :: t, h => by
    have hb : n ≠ b := fun e => h (by rw [e]; simp)
    rw [List.cons_append, befL, if_neg hb, befL_out a b v t (fun hh => h (List.mem_cons_of_mem _ hh)), ← Bool.or_assoc]
    congr 1
    by_cases c : n = a
    · subst c; simp
    · have : ¬ a = n := fun e => c e.symm
      simp [c, this]
def comL (f : Int → Bool) : List Int → Int → Int
  | [], o => o
  | n :: t, o => comL f t (if f n = true then n else o)
theorem comL_app (f : Int → Bool) : ∀ (u v : List Int) (o : Int), comL f (u ++ v) o = comL f v (comL f u o)
  | [], _, _ => rfl
  | _ :: t, v, _ => comL_app f t v _
theorem comL_none (f : Int → Bool) : ∀ (u : List Int) (o : Int), (∀ n ∈ u, f n = false) → comL f u o = o
  | [], _, _ => rfl
  | n :: t, o, h => by
    rw [comL, h n (by simp), if_neg Bool.false_ne_true]
    exact comL_none f t o fun m hm => h m (List.mem_cons_of_mem _ hm)
theorem comL_congr (f g : Int → Bool) : ∀ (u : List Int) (o : Int), (∀ n ∈ u, f n = g n) → comL f u o = comL g u o
  | [], _, _ => rfl
  | n :: t, o, h => by
    rw [comL, comL, h n (by simp)]
    exact comL_congr f g t _ fun m hm => h m (List.mem_cons_of_mem _ hm)
def befP (ns : List S43) (p q : List Int) : Bool :=
  if cpre p q < p.length ∧ cpre p q < q.length then decide (idxI (kidL ns (rd p ((cpre p q - 1 : Nat) : Int))) (rd p (cpre p q : Int)) < idxI (kidL ns (rd p ((cpre p q - 1 : Nat) : Int))) (rd q (cpre p q : Int)))
  else decide ((p.length : Int) < (q.length : Int))
theorem cpre_nil (p : List Int) : cpre p [] = 0 := by cases p <;> rfl
theorem q1q (x : Int) (p q : List Int) : cpre (x :: p) (x :: q) = cpre p q + 1 := by rw [cpre, if_pos rfl]
theorem idx_in : ∀ (U V : List Int) (x : Int), x ∈ U → idx (U ++ V) x < U.length
  | u :: U, V, x, h => by
    rw [List.cons_append, idx]
    by_cases c : u = x
    · rw [if_pos c]; simp
    · rw [if_neg c]
      have := idx_in U V x (by rcases List.mem_cons.1 h with e | e; exact absurd e.symm c; exact e)
      simp only [List.length_cons]; omega
theorem idx_out : ∀ (U V : List Int) (x : Int), x ∉ U → U.length ≤ idx (U ++ V) x
  | [], _, _, _ => Nat.zero_le _
  | u :: U, V, x, h => by
    rw [List.cons_append, idx, if_neg (fun e => h (by rw [e]; simp))]
    have := idx_out U V x (fun e => h (List.mem_cons_of_mem _ e))
    simp only [List.length_cons]; omega
section
variable {ns : List S43} (h : Tree ns)
include h
omit h in
theorem befP_cons {i x y : Int} {p q : List Int} (hxy : 1 ≤ cpre (x :: p) (y :: q)) : befP ns (i :: x :: p) (i :: y :: q) = befP ns (x :: p) (y :: q) := by
  obtain ⟨m, hm⟩ : ∃ m, cpre (x :: p) (y :: q) = m + 1 := ⟨cpre (x :: p) (y :: q) - 1, by omega⟩
  unfold befP
  rw [q1q, hm]
  simp only [Nat.add_sub_cancel, rd_succ]
  by_cases c : m + 1 < (x :: p).length ∧ m + 1 < (y :: q).length
  · rw [if_pos c, if_pos (by simp only [List.length_cons] at c ⊢; omega)]
  · rw [if_neg c, if_neg (by simp only [List.length_cons] at c ⊢; omega)]
    exact decide_eq_decide.2 (by simp only [List.length_cons]; omega)
theorem pairs : ∀ (D : Nat) (i a b : Int), 41 - q0m ns i ≤ D → 0 ≤ i → i < ns.length → a ∈ sub ns i → b ∈ sub ns i →
    1 ≤ cpre (relP ns (q0m ns a - q0m ns i) a) (relP ns (q0m ns b - q0m ns i) b) ∧
    befP ns (relP ns (q0m ns a - q0m ns i) a) (relP ns (q0m ns b - q0m ns i) b) = befL (sub ns i) a b ∧
    ∀ o, comL (fun n => decide (n ∈ relP ns (q0m ns a - q0m ns i) a) && decide (n ∈ relP ns (q0m ns b - q0m ns i) b)) (sub ns i) o = rd (relP ns (q0m ns a - q0m ns i) a) ((cpre (relP ns (q0m ns a - q0m ns i) a) (relP ns (q0m ns b - q0m ns i) b) - 1 : Nat) : Int)
  | 0, i, a, b, hD, h0, h1, ha, hb => by
    have := (h.deep i h0 h1).1
    omega
  | D + 1, i, a, b, hD, h0, h1, ha, hb => by
    have hse := sub_eq h h0 h1
    have hnd := sub_nodup h h0 h1
    have hni : i ∉ (kidL ns i).flatMap (sub ns) := by rw [hse] at hnd; exact (List.nodup_cons.1 hnd).1
    obtain ⟨pa, hpa⟩ := rel_head h h0 h1 ha
    obtain ⟨pb, hpb⟩ := rel_head h h0 h1 hb
    -- what is above both, when nothing below i is
    have com1 : ∀ (p q : List Int), (∀ n ∈ (kidL ns i).flatMap (sub ns), n ∈ i :: p → n ∈ i :: q → False) → cpre p q = 0 → ∀ o, comL (fun n => decide (n ∈ i :: p) && decide (n ∈ i :: q)) (sub ns i) o = rd (i :: p) ((cpre (i :: p) (i :: q) - 1 : Nat) : Int) := by
      intro p q hf hc o
      rw [hse, comL, q1q, hc]
      have e1 : (decide (i ∈ i :: p) && decide (i ∈ i :: q)) = true := by simp
      rw [e1, if_pos rfl]
      exact comL_none _ _ _ fun n hn => by
        by_cases x1 : n ∈ i :: p
        · by_cases x2 : n ∈ i :: q
          · exact (hf n hn x1 x2).elim
          · simp only [decide_eq_false x2, Bool.and_false]
        · simp only [decide_eq_false x1, Bool.false_and]
    by_cases eb : b = i
    · have hr : relP ns (q0m ns b - q0m ns i) b = [i] := by rw [eb, rel_self]
      rw [hpa, hr]
      refine ⟨by rw [q1q]; omega, ?_, com1 pa [] (fun n hn _ hx => hni (by rw [List.mem_singleton.1 hx] at hn; exact hn)) (cpre_nil _)⟩
      rw [hse, befL, if_pos eb.symm]
      unfold befP
      rw [q1q, cpre_nil, if_neg (by simp), decide_eq_false (by simp only [List.length_cons, List.length_nil]; omega)]
    · obtain ⟨cb, hcb, hbc, hrb⟩ := sub_kid h h0 h1 hb eb
      obtain ⟨b0, b1, _⟩ := h.kid i cb h0 h1 hcb
      have hkb := q1a h h0 h1 hcb
      obtain ⟨tb, htb⟩ := rel_head h b0 b1 hbc
      by_cases ea : a = i
      · have hr : relP ns (q0m ns a - q0m ns i) a = [i] := by rw [ea, rel_self]
        rw [hr, hrb, htb]
        refine ⟨by rw [q1q]; omega, ?_, com1 [] _ (fun n hn hx _ => hni (by rw [List.mem_singleton.1 hx] at hn; exact hn)) rfl⟩
        rw [hse, befL, if_neg (fun e => eb e.symm), decide_eq_true ea.symm, Bool.true_or]
        unfold befP
        rw [q1q, show cpre [] (cb :: tb) = 0 from rfl, if_neg (by simp), decide_eq_true (by simp only [List.length_cons, List.length_nil]; omega)]
      · obtain ⟨ca, hca, hac, hra⟩ := sub_kid h h0 h1 ha ea
        obtain ⟨a0, a1, _⟩ := h.kid i ca h0 h1 hca
        have hka := q1a h h0 h1 hca
        obtain ⟨ta, hta⟩ := rel_head h a0 a1 hac
        obtain ⟨K1, K2, hK⟩ := List.append_of_mem hcb
        have honce := h.once i h0 h1
        have hK1 : cb ∉ K1 := fun hx => by
          rw [hK] at honce
          exact (List.nodup_append.1 honce).2.2 cb hx cb (by simp) rfl
        have hflat : (kidL ns i).flatMap (sub ns) = K1.flatMap (sub ns) ++ (sub ns cb ++ K2.flatMap (sub ns)) := by
          rw [hK, List.flatMap_append, List.flatMap_cons]
        have hbK : b ∉ K1.flatMap (sub ns) := fun hx => by
          obtain ⟨c, hc, hx⟩ := List.mem_flatMap.1 hx
          exact hK1 (by rw [← kid_one h h0 h1 (by rw [hK]; simp [hc]) hcb hx hbc]; exact hc)
        have haK : a ∈ K1.flatMap (sub ns) ↔ ca ∈ K1 := by
          constructor
          · intro hx
            obtain ⟨c, hc, hx⟩ := List.mem_flatMap.1 hx
            rw [← kid_one h h0 h1 (by rw [hK]; simp [hc]) hca hx hac]; exact hc
          · intro hx
            exact List.mem_flatMap.2 ⟨ca, hx, hac⟩
        have hbef : befL (sub ns i) a b = (decide (ca ∈ K1) || befL (sub ns cb) a b) := by
          rw [hse, befL, if_neg (fun e => eb e.symm), decide_eq_false (fun e => ea e.symm), Bool.false_or, hflat, befL_out _ _ _ _ hbK, befL_in _ _ _ _ hbc, decide_eq_decide.2 haK]
        by_cases ec : ca = cb
        · subst ec
          obtain ⟨g1, g2, g3⟩ := pairs D ca a b (by omega) a0 a1 hac hbc
          rw [hra, hrb]
          refine ⟨by rw [q1q]; omega, ?_, ?_⟩
          · rw [hbef, decide_eq_false hK1, Bool.false_or, ← g2, hta, htb]
            rw [hta, htb] at g1
            exact befP_cons g1
          · intro o
            obtain ⟨m, hm⟩ : ∃ m, cpre (relP ns (q0m ns a - q0m ns ca) a) (relP ns (q0m ns b - q0m ns ca) b) = m + 1 := ⟨_, (Nat.sub_add_cancel g1).symm⟩
            have off : ∀ c ∈ kidL ns i, c ≠ ca → ∀ n ∈ sub ns c, (decide (n ∈ i :: relP ns (q0m ns a - q0m ns ca) a) && decide (n ∈ i :: relP ns (q0m ns b - q0m ns ca) b)) = false := by
              intro c hc hne n hn
              have hi : n ≠ i := fun e => kid_sub_ne h h0 h1 hc (by rw [← e]; exact hn)
              have hx : n ∉ i :: relP ns (q0m ns a - q0m ns ca) a := fun hx => by
                rcases List.mem_cons.1 hx with e | hx
                · exact hi e
                · exact hne (kid_one h h0 h1 hc hca hn (rel_sub h _ ca a (Nat.le_refl _) a0 a1 hac n hx))
              rw [decide_eq_false hx, Bool.false_and]
            rw [hse, comL, hflat, comL_app, comL_app]
            rw [comL_none _ (K1.flatMap (sub ns)) _ fun n hn => by
              obtain ⟨c, hc, hn⟩ := List.mem_flatMap.1 hn
              exact off c (by rw [hK]; simp [hc]) (fun e => hK1 (by rw [← e]; exact hc)) n hn]
            rw [comL_none _ (K2.flatMap (sub ns)) _ fun n hn => by
              obtain ⟨c, hc, hn⟩ := List.mem_flatMap.1 hn
              refine off c (by rw [hK]; simp [hc]) (fun e => ?_) n hn
              rw [hK] at honce
              exact (List.nodup_cons.1 (List.nodup_append.1 honce).2.1).1 (by rw [← e]; exact hc)]
            rw [comL_congr _ (fun n => decide (n ∈ relP ns (q0m ns a - q0m ns ca) a) && decide (n ∈ relP ns (q0m ns b - q0m ns ca) b)) (sub ns ca) _ fun n hn => by
              have hi : n ≠ i := fun e => kid_sub_ne h h0 h1 hca (by rw [← e]; exact hn)
              simp only [List.mem_cons, hi, false_or]]
            rw [g3, q1q, hm, show m + 1 + 1 - 1 = m + 1 from rfl, rd_succ, Nat.add_sub_cancel]
        · have hne : cpre (ca :: ta) (cb :: tb) = 0 := by rw [cpre, if_neg ec]
          rw [hra, hrb, hta, htb]
          refine ⟨by rw [q1q]; omega, ?_, com1 _ _ (fun n hn x1 x2 => ?_) hne⟩
          · have hnb : a ∉ sub ns cb := fun hx => ec (kid_one h h0 h1 hca hcb hac hx)
            rw [hbef, befL_not _ _ _ hnb, Bool.or_false]
            unfold befP
            rw [q1q, hne, if_pos (by simp), show rd (i :: ca :: ta) ((0 + 1 - 1 : Nat) : Int) = i from rfl, show rd (i :: ca :: ta) ((0 + 1 : Nat) : Int) = ca from rfl, show rd (i :: cb :: tb) ((0 + 1 : Nat) : Int) = cb from rfl, idxI_mem hca, idxI_mem hcb]
            refine decide_eq_decide.2 ?_
            rw [hK, idx_mid _ _ _ hK1]
            constructor
            · intro hlt
              by_cases c : ca ∈ K1
              · exact c
              · have := idx_out K1 (cb :: K2) ca c
                omega
            · intro hc
              have := idx_in K1 (cb :: K2) ca hc
              omega
          · have hi : n ≠ i := fun e => hni (by rw [e] at hn; exact hn)
            rcases List.mem_cons.1 x1 with e | x1
            · exact hi e
            rcases List.mem_cons.1 x2 with e | x2
            · exact hi e
            rw [← hta] at x1
            rw [← htb] at x2
            exact ec (kid_one h h0 h1 hca hcb (rel_sub h _ ca a (Nat.le_refl _) a0 a1 hac n x1) (rel_sub h _ cb b (Nat.le_refl _) b0 b1 hbc n x2))
end
end Go.Proofs.YthjnallbbhnndaaDoor.Dm
namespace Go.Proofs.YthjnallbbhnndaaDoor.Pure
open Go Go.RowKit Go.Proofs.YthjnallbbhnndaaDoor.XWp Go.Proofs.YthjnallbbhnndaaDoor.Dm Go.Proofs.YthjnallbbhnndaaDoorW.PrintWords Go.Proofs.YthjnallbbhnndaaDoorW.PrintLast Go.Proofs.YthjnallbbhnndaaDoorW.PrintMore
set_option maxRecDepth 100000
theorem begunW : clerestorylaw1_walkBegun.f 2000 = some true := by decide +kernel
theorem begunK (k : Nat) (hk : 2000 ≤ k) : clerestorylaw1_walkBegun.f k = some true := by
  have := more_rounds (g := fun k => clerestorylaw1_walkBegun.f k) clerestorylaw1_walkBegun.mono 2000 (k - 2000) _ begunW
  rw [show 2000 + (k - 2000) = k by omega] at this
  exact this
section
variable {ns : List S43} (q : Bool)
theorem fin_ (a : Int) (x y : Bool) (z p e1 e2 : Int) (k : Nat) (hk : 2001 ≤ k) : clerestorylaw1_WalkPairs.j2 k a x e2 y e2 z e2 p e1 e2 e1 x y z p false ns q = some true := by
  obtain ⟨k, rfl⟩ : ∃ m, k = m + 1 := ⟨k - 1, by omega⟩
  rw [clerestorylaw1_WalkPairs.j2, if_neg Bool.false_ne_true, begunK k (by omega), Option.bind_some, if_pos rfl, if_pos (by simp), if_pos rfl, if_pos (by simp), if_pos rfl, if_pos rfl, if_pos rfl, if_pos rfl]
  simp
theorem idx_cons (y : Int) (t : List Int) (x : Int) : idx (y :: t) x = if y = x then 0 else idx t x + 1 := rfl
theorem place_loop (a : Int) (x y : Bool) (z e1 e2 P : Int) (ks : List Int) (hks : ks.length ≤ 1000) (hnd : ks.Nodup) : ∀ (d i k : Nat) (cur : Int), i + d = ks.length → d + 2001 ≤ k →
    (cur = P ∧ a ∉ ks.drop i ∨ a ∈ ks.drop i ∧ ((i + idx (ks.drop i) a : Nat) : Int) = P) → clerestorylaw1_WalkPairs.l1 k a x e2 y e2 z e2 P e1 e2 e1 x y z cur ks (ks.length : Int) (i : Int) = some true
  | 0, i, k, cur, hi, hk, hc => by
    obtain ⟨k, rfl⟩ : ∃ m, k = m + 1 := ⟨k - 1, by omega⟩
    rw [List.drop_eq_nil_of_le (by omega)] at hc
    have hP : cur = P := by
      rcases hc with ⟨h, _⟩ | ⟨h, _⟩
      · exact h
      · simp at h
    rw [clerestorylaw1_WalkPairs.l1, if_neg (by omega), begunK k (by omega), Option.bind_some, if_pos rfl, if_pos (by simp), if_pos rfl, if_pos (by simp), if_pos rfl, if_pos rfl, if_pos rfl, if_pos hP.symm]
    simp
  | d + 1, i, k, cur, hi, hk, hc => by
    obtain ⟨k, rfl⟩ : ∃ m, k = m + 1 := ⟨k - 1, by omega⟩
    have hlt : i < ks.length := by omega
    have hdr := walk_check.dropL ks i hlt
    rw [hdr] at hc
    have hnd' : (ks.drop i).Nodup := hnd.sublist (List.drop_sublist _ _)
    rw [hdr, List.nodup_cons] at hnd'
    rw [clerestorylaw1_WalkPairs.l1, if_pos (by omega), if_pos (by omega), if_pos (by omega), w1 _ (by omega)]
    by_cases c : rd ks (i : Int) = a
    · rw [if_pos c]
      refine place_loop a x y z e1 e2 P ks hks hnd d (i + 1) k (i : Int) (by omega) (by omega) (.inl ⟨?_, by rw [← c]; exact hnd'.1⟩)
      rcases hc with ⟨_, h⟩ | ⟨_, h⟩
      · exact absurd (by rw [c]; simp) h
      · rw [idx_cons, if_pos c] at h
        omega
    · rw [if_neg c]
      refine place_loop a x y z e1 e2 P ks hks hnd d (i + 1) k cur (by omega) (by omega) ?_
      rcases hc with ⟨h1, h2⟩ | ⟨h1, h2⟩
      · exact .inl ⟨h1, fun h => h2 (List.mem_cons_of_mem _ h)⟩
      · rw [idx_cons, if_neg c] at h2
        rcases List.mem_cons.1 h1 with e | h1
        · exact absurd e.symm c
        · exact .inr ⟨h1, by omega⟩
theorem bef_loop (a b : Int) (B y : Bool) (z p e1 e2 : Int) (x16 x20 : Int) (l : List Int) (hl : l.length ≤ 1000) (K0 : Nat)
    (tail : ∀ k, K0 ≤ k → ((clerestoryref1_Under.f k ns q a b).bind fun t => (clerestoryref1_WalkCommon.f k ns q a b).bind fun s => clerestorylaw1_WalkPairs.j1 k a B e1 y e2 z e2 p x16 e2 x16 B t s x20 ns q) = some true) :
    ∀ (d i k : Nat) (x17 : Bool), i + d = l.length → K0 + d + 1 ≤ k → (x17 || befL (l.drop i) a b) = B → clerestorylaw1_WalkPairs.l0 k a b B e1 y e2 z e2 p x16 e2 x16 x17 x20 l (l.length : Int) (i : Int) ns q = some true
  | 0, i, k, x17, hi, hk, hB => by
    obtain ⟨k, rfl⟩ : ∃ m, k = m + 1 := ⟨k - 1, by omega⟩
    rw [List.drop_eq_nil_of_le (by omega), befL, Bool.or_false] at hB
    rw [clerestorylaw1_WalkPairs.l0, if_neg (by omega), hB]
    exact tail k (by omega)
  | d + 1, i, k, x17, hi, hk, hB => by
    obtain ⟨k, rfl⟩ : ∃ m, k = m + 1 := ⟨k - 1, by omega⟩
    have hlt : i < l.length := by omega
    rw [walk_check.dropL l i hlt, befL] at hB
    rw [clerestorylaw1_WalkPairs.l0, if_pos (by omega), if_pos (by omega), if_pos (by omega)]
    by_cases c : rd l (i : Int) = b
    · rw [if_pos c, Bool.or_false] at hB
      rw [if_pos c, hB]
      exact tail k (by omega)
    · rw [if_neg c] at hB
      rw [if_neg c, w1 _ (by omega)]
      cases x17 with
      | true =>
        rw [if_pos rfl]
        exact bef_loop a b B y z p e1 e2 x16 x20 l hl K0 tail d (i + 1) k true (by omega) (by omega) (by rw [Bool.true_or] at hB ⊢; exact hB)
      | false =>
        rw [if_neg Bool.false_ne_true]
        refine bef_loop a b B y z p e1 e2 x16 x20 l hl K0 tail d (i + 1) k _ (by omega) (by omega) ?_
        rw [Bool.false_or] at hB
        rw [← hB]
        rfl
variable (h : Tree ns)
include h
theorem com_loop {a b : Int} (a0 : 0 ≤ a) (a1 : a < ns.length) (b0 : 0 ≤ b) (b1 : b < ns.length) (l : List Int) (hl : l.length ≤ 1000) (hr : ∀ n ∈ l, 0 ≤ n) : ∀ (d i k : Nat) (o : Int), i + d = l.length → d + 100 ≤ k →
    clerestoryref1_WalkCommon.l0 k a b l o (i : Int) ns q = some (comL (fun n => decide (n ∈ relP ns (q0m ns a) a) && decide (n ∈ relP ns (q0m ns b) b)) (l.drop i) o)
  | 0, i, k, o, hi, hk => by
    obtain ⟨k, rfl⟩ : ∃ m, k = m + 1 := ⟨k - 1, by omega⟩
    rw [clerestoryref1_WalkCommon.l0, if_neg (by omega), List.drop_eq_nil_of_le (by omega)]
    rfl
  | d + 1, i, k, o, hi, hk => by
    obtain ⟨k, rfl⟩ : ∃ m, k = m + 1 := ⟨k - 1, by omega⟩
    have hlt : i < l.length := by omega
    have hn := hr _ (rd_mem hlt)
    rw [clerestoryref1_WalkCommon.l0, if_pos (by omega), if_pos (by omega), under_all h q a0 a1 hn k (by omega), Option.bind_some, w1 _ (by omega), walk_check.dropL l i hlt, comL]
    by_cases c : rd l (i : Int) ∈ relP ns (q0m ns a) a
    · rw [if_pos (decide_eq_true c), under_all h q b0 b1 hn k (by omega), Option.bind_some]
      by_cases c' : rd l (i : Int) ∈ relP ns (q0m ns b) b
      · rw [if_pos (decide_eq_true c'), com_loop a0 a1 b0 b1 l hl hr d (i + 1) k _ (by omega) (by omega)]
        simp only [decide_eq_true c, decide_eq_true c', Bool.and_true, if_true]
      · rw [if_neg (by rw [decide_eq_false c']; exact Bool.false_ne_true), com_loop a0 a1 b0 b1 l hl hr d (i + 1) k _ (by omega) (by omega)]
        simp only [decide_eq_false c', Bool.and_false, Bool.false_eq_true, if_false]
    · rw [if_neg (by rw [decide_eq_false c]; exact Bool.false_ne_true), com_loop a0 a1 b0 b1 l hl hr d (i + 1) k _ (by omega) (by omega)]
      simp only [decide_eq_false c, Bool.false_and, Bool.false_eq_true, if_false]
theorem root_deep : q0m ns 0 = 0 := deep_root h (by rw [h.root]; decide)
end
theorem WalkPairs : clerestorylaw1_WalkPairs.Pure := by
  intro l0 q a b hl _ _ _
  obtain ⟨ns, hfew, hn60, hS, hK⟩ := few_of_form l0 q 60 (by decide) hl
  obtain ⟨K0, hK0⟩ := both_check ns q hS hK
  obtain ⟨D, hD⟩ : ∃ D, docE ns = D := ⟨_, rfl⟩
  simp only [hD] at hK0
  refine ⟨K0 + 100000, ?_⟩
  obtain ⟨K, hKe⟩ : ∃ K, K0 + 100000 = K := ⟨_, rfl⟩
  rw [hKe]
  have chk : ∀ ll, walk_check.f K ns q ll = some (if D = 0 then errW ns ll else D) := fun ll => check_all ns q ll D hD K (by omega) (hK0 K (by omega)).1
  have wer : ∀ ll : List Int, ll.length ≤ 1000 → clerestoryref1_WalkErr.f K ns q ll = some (if D = 0 then errW ns ll else D) := fun ll hll => walkErr_all ns q ll hll D hD K (by omega) (hK0 K (by omega)).2
  obtain ⟨E2, hE2⟩ : ∃ E, (if D = 0 then errW ns [a, b] else D) = E := ⟨_, rfl⟩
  obtain ⟨E1, hE1⟩ : ∃ E, (if D = 0 then errW ns [a] else D) = E := ⟨_, rfl⟩
  have c2 := chk [a, b]
  have c1 := chk [a]
  have w2 := wer [a, b] (by simp)
  have w1' := wer [a] (by simp)
  rw [hE2] at c2 w2
  rw [hE1] at c1 w1'
  -- the place
  have place : ∃ P : Int, walk_Place.f K ns q a = some (P, E1) ∧ ∀ (x y : Bool) (z e2 : Int) (k : Nat), 5000 ≤ k → clerestorylaw1_WalkPairs.j1 k a x e2 y e2 z e2 P E1 e2 E1 x y z 0 ns q = some true := by
    unfold walk_Place.f
    rw [c1, Option.bind_some]
    by_cases ce : E1 = 0
    · rw [if_pos ce]
      have hD0 : D = 0 := by
        by_cases c : D = 0
        · exact c
        · rw [if_neg c] at hE1; omega
      have ht : Tree ns := tree_of (hD.trans hD0)
      rw [if_pos hD0] at hE1
      obtain ⟨a0, a1, ha⟩ := errW_zero ht (hE1.trans ce) a (by simp)
      by_cases ca : a = 0
      · rw [if_pos ca]
        refine ⟨0, by rw [ce], fun x y z e2 k hk => ?_⟩
        obtain ⟨k, rfl⟩ : ∃ m, k = m + 1 := ⟨k - 1, by omega⟩
        rw [clerestorylaw1_WalkPairs.j1, if_pos ce, decide_eq_false (by omega)]
        exact fin_ q a x y z 0 E1 e2 k (by omega)
      · have hr0 : (0 : Int) < ns.length := by have := ht.some_; omega
        have hp : 0 ≤ par ns a ∧ par ns a < ns.length ∧ a ∈ kidL ns (par ns a) := by
          rcases ht.up a a0 a1 with hp | hp
          · have := (q1d ht (i := 0) (by decide) hr0 ha).2.2.2
            rw [deep_root ht (by omega : par ns a < 0), Nat.zero_sub] at this
            exact absurd this ca
          · exact hp
        have hlen := kid_len ht hp.1 hp.2.1
        have hix : slices_Index_int_int.f K (kidL ns (par ns a)) a = some (idx (kidL ns (par ns a)) a : Int) := by rw [index_eq _ _ (by omega) K (by omega), idxI_mem hp.2.2]
        rw [if_neg ca, if_pos (show 0 ≤ a ∧ a < (ns.length : Int) ∧ 0 ≤ (q00 ns a).f4 ∧ (q00 ns a).f4 < (ns.length : Int) from ⟨a0, a1, hp.1, hp.2.1⟩)]
        show ∃ P, ((slices_Index_int_int.f K (kidL ns (par ns a)) a).bind fun t => some (t, (0 : Int))) = some (P, E1) ∧ _
        rw [hix, Option.bind_some]
        refine ⟨_, by rw [ce], fun x y z e2 k hk => ?_⟩
        obtain ⟨k, rfl⟩ : ∃ m, k = m + 2 := ⟨k - 2, by omega⟩
        rw [clerestorylaw1_WalkPairs.j1, if_pos ce, decide_eq_true (by omega), clerestorylaw1_WalkPairs.j2, if_pos rfl, if_pos a0, if_pos a1]
        show (if 0 ≤ par ns a then (if par ns a < (ns.length : Int) then clerestorylaw1_WalkPairs.l1 k a x e2 y e2 z e2 (idx (kidL ns (par ns a)) a : Int) E1 e2 E1 x y z 0 (kidL ns (par ns a)) ((kidL ns (par ns a)).length : Int) ((0 : Nat) : Int) else none) else none) = some true
        rw [if_pos hp.1, if_pos hp.2.1]
        exact place_loop a x y z E1 e2 _ _ (by omega) (ht.once _ hp.1 hp.2.1) (kidL ns (par ns a)).length 0 k 0 (by omega) (by omega) (.inr ⟨by rw [List.drop_zero]; exact hp.2.2, by rw [List.drop_zero, Nat.zero_add]⟩)
    · rw [if_neg ce]
      refine ⟨0, rfl, fun x y z e2 k hk => ?_⟩
      obtain ⟨k, rfl⟩ : ∃ m, k = m + 1 := ⟨k - 1, by omega⟩
      rw [clerestorylaw1_WalkPairs.j1, if_neg ce]
      exact fin_ q a x y z 0 E1 e2 k (by omega)
  obtain ⟨P, hP, hfin⟩ := place
  unfold clerestorylaw1_WalkPairs.f
  rw [hfew, Option.bind_some]
  show ((walk_Before.f K ns q a b).bind fun t5 => (walk_Within.f K ns q a b).bind fun t7 => (walk_Common.f K ns q a b).bind fun t9 => (walk_Place.f K ns q a).bind fun t1 => (clerestoryref1_WalkErr.f K ns q [a, b]).bind fun t6 => (clerestoryref1_WalkErr.f K ns q [a]).bind fun t0 => if t6 = 0 then ((clerestoryref1_Below.f K ns q 0).bind fun t311 => clerestorylaw1_WalkPairs.l0 K a b t5.1 t5.2 t7.1 t7.2 t9.1 t9.2 t1.1 t1.2 t6 t0 false 0 t311 (t311.length : Int) 0 ns q) else clerestorylaw1_WalkPairs.j1 K a t5.1 t5.2 t7.1 t7.2 t9.1 t9.2 t1.1 t1.2 t6 t0 false false 0 0 ns q) = some true
  rw [hP, w2, w1']
  unfold walk_Before.f walk_Within.f walk_Common.f
  rw [c2]
  simp only [Option.bind_some]
  by_cases ce : E2 = 0
  · have hD0 : D = 0 := by
      by_cases c : D = 0
      · exact c
      · rw [if_neg c] at hE2; omega
    have ht : Tree ns := tree_of (hD.trans hD0)
    rw [if_pos hD0] at hE2
    obtain ⟨a0, a1, ha⟩ := errW_zero ht (hE2.trans ce) a (by simp)
    obtain ⟨b0, b1, hb⟩ := errW_zero ht (hE2.trans ce) b (by simp)
    have hr0 : (0 : Int) < ns.length := by have := ht.some_; omega
    have hlen := sub_few ht (i := 0) (by decide) hr0
    have hmany := ht.many
    obtain ⟨g1, g2, g3⟩ := pairs ht _ 0 a b (Nat.le_refl _) (by decide) hr0 ha hb
    have hps := rel_sub ht _ 0 a (Nat.le_refl _) (by decide) hr0 ha
    rw [root_deep ht, Nat.sub_zero] at hps
    rw [root_deep ht, Nat.sub_zero, Nat.sub_zero] at g1 g2 g3
    have hda := (ht.deep a a0 a1).1
    have hdb := (ht.deep b b0 b1).1
    have la := relP_len ns (q0m ns a) a
    have lb := relP_len ns (q0m ns b) b
    have hpa := path_rel ht q a0 a1 K (by omega)
    have hpb := path_rel ht q b0 b1 K (by omega)
    have hun := under_all ht q a0 a1 b0
    have hcl := cpre_le (relP ns (q0m ns a) a) (relP ns (q0m ns b) b)
    obtain ⟨p, hp⟩ : ∃ p, relP ns (q0m ns a) a = p := ⟨_, rfl⟩
    obtain ⟨q', hq⟩ : ∃ p, relP ns (q0m ns b) b = p := ⟨_, rfl⟩
    have hcom : ∀ k, 2000 ≤ k → clerestoryref1_Below.f k ns q 0 = some (sub ns 0) → clerestoryref1_WalkCommon.f k ns q a b = some (rd p ((cpre p q' - 1 : Nat) : Int)) := by
      intro k hk hbel
      unfold clerestoryref1_WalkCommon.f
      rw [hbel, Option.bind_some]
      have := com_loop q ht a0 a1 b0 b1 (sub ns 0) (by omega) (fun n hn => (q1d ht (by decide) hr0 hn).1) (sub ns 0).length 0 k 0 (by omega) (by omega)
      rw [show ((0 : Nat) : Int) = 0 from rfl, List.drop_zero] at this
      rw [this, g3, hp, hq]
    have hbel := below_all ht q 0 (by decide) hr0
    rw [hp] at hpa hun hps la g1 g2 hcl
    rw [hq] at hpb lb g1 g2 hcl
    have hB : (if cpre p q' < p.length ∧ cpre p q' < q'.length then
        (if 1 ≤ cpre p q' ∧ 0 ≤ rd p ((cpre p q' - 1 : Nat) : Int) ∧ rd p ((cpre p q' - 1 : Nat) : Int) < (ns.length : Int) then
          (slices_Index_int_int.f K (q00 ns (rd p ((cpre p q' - 1 : Nat) : Int))).f5 (rd p (cpre p q' : Int))).bind fun x =>
          (slices_Index_int_int.f K (q00 ns (rd p ((cpre p q' - 1 : Nat) : Int))).f5 (rd q' (cpre p q' : Int))).bind fun y => some (decide (x < y), (0 : Int))
        else none)
      else some (decide ((p.length : Int) < (q'.length : Int)), (0 : Int))) = some (befL (sub ns 0) a b, 0) := by
      rw [← g2]
      unfold befP
      by_cases c : cpre p q' < p.length ∧ cpre p q' < q'.length
      · have hm := hps _ (rd_mem (show cpre p q' - 1 < p.length by omega))
        obtain ⟨m0, m1, _⟩ := q1d ht (by decide) hr0 hm
        have hkl := kid_len ht m0 m1
        rw [if_pos c, if_pos c, if_pos ⟨g1, m0, m1⟩]
        show ((slices_Index_int_int.f K (kidL ns _) _).bind fun x => (slices_Index_int_int.f K (kidL ns _) _).bind fun y => some (decide (x < y), (0 : Int))) = _
        rw [index_eq _ _ (by omega) K (by omega), index_eq _ _ (by omega) K (by omega)]
        rfl
      · rw [if_neg c, if_neg c]
    rw [if_pos ce, if_pos ce, if_pos ce, hpa]
    simp only [Option.bind_some]
    rw [hpb]
    simp only [Option.bind_some, true_and, if_true]
    rw [if_pos (⟨by omega, by omega⟩ : p.length ≤ 4611686018427387904 ∧ q'.length ≤ 4611686018427387904), hB, if_pos (⟨g1, by omega⟩ : 1 ≤ cpre p q' ∧ p.length ≤ 4611686018427387904)]
    simp only [Option.bind_some]
    have hcont : slices_Contains_int_int.f K p b = some (decide (b ∈ p)) := by
      unfold slices_Contains_int_int.f
      rw [index_eq _ _ (by omega) K (by omega), Option.bind_some]
      unfold idxI
      by_cases c : b ∈ p
      · rw [if_pos ((mem_hasK p b).2 c), decide_eq_true c, decide_eq_true (by omega)]
      · rw [if_neg (fun hh => c ((mem_hasK p b).1 hh)), decide_eq_false c]
        rfl
    rw [hcont]
    simp only [Option.bind_some]
    rw [if_pos ce, hbel K (by omega), Option.bind_some, ce]
    refine bef_loop q a b _ _ _ _ 0 0 E1 0 (sub ns 0) (by omega) 9000 (fun k hk => ?_) (sub ns 0).length 0 K false (by omega) (by omega) (by rw [List.drop_zero, Bool.false_or])
    rw [hun k (by omega), Option.bind_some, hcom k (by omega) (hbel k (by omega)), Option.bind_some]
    exact hfin _ _ _ 0 k (by omega)
  · rw [if_neg ce, if_neg ce, if_neg ce]
    simp only [Option.bind_some]
    rw [if_neg ce]
    exact hfin false false 0 E2 K (by omega)
end Go.Proofs.YthjnallbbhnndaaDoor.Pure
namespace Go.Proofs.YthjnallbbhnndaaDoor
open Go Go.Shelf Go.ChangeShapes Go.WideShapes Go.ChangeAt Go.RowKit Go.Lib
def lay2 : List (String × DataW Unit) := [("unicode/utf8.acceptRanges", Rows.laid_unicode_utf8_acceptRanges), ("unicode/utf8.first", Rows.laid_unicode_utf8_first)]
noncomputable def laidWorld (os : Os) : World :=
  let w0 := World.holding Tryd.prog os ⟨#[], #[], []⟩
  let put (h : Array Obj) (g : Nat) (cs : Array Value) : Array Obj := h.modify g fun
    | .cells _ t frozen => .cells cs t frozen
    | o => o
  let h1 := put w0.heap 1 (Lib.firstTab.map fun z => Value.int .u8 z).toArray
  let h2 := put h1 2 ((List.range 16).flatMap fun i => [Value.int .u8 (Lib.accLo i), Value.int .u8 (Lib.accHi i)]).toArray
  { w0 with heap := h2 }
theorem laid_met (os : Os) (args : Array Value) : laidMet Tryd.prog lay2 ((laidWorld os).forCall (fun _ _ => 0) ⟨#[], args, []⟩).memory :=
  (LaidIn.of_run (l := lay2) [2, 1] 8 (by kernel_rfl) (by kernel_rfl) (by kernel_rfl) (by kernel_rfl)).met
theorem own_ : ownKnob Tryd.prog.godebug = none := by kernel_rfl
theorem laidOut_ : laidOutB Tryd.prog = true := by kernel_rfl
end Go.Proofs.YthjnallbbhnndaaDoor
