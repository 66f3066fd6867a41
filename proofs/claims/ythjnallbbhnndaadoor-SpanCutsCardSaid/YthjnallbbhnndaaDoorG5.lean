/- Written by this session's program (wip/xp) out of the translation as Lean prints it: for each Go function a Lean function and the proof that the code answers just so, on the conditions named in each statement. -/
import Derived.Test.YthjnallbbhnndaaDoorG4
namespace Go.Proofs.YthjnallbbhnndaaDoor.XSp
open Go.Proofs.YthjnallbbhnndaaDoor.Short Go.RowKit Go.Proofs.YthjnallbbhnndaaDoorW.PrintWords Go.Proofs.YthjnallbbhnndaaDoorW.PrintLast Go.Proofs.YthjnallbbhnndaaDoorW.PrintMore
attribute [local go_sem] max2_int min2_int max_two min_two q1n q1m max_four min_four   -- for this text's walks alone
set_option linter.unusedVariables false
set_option linter.unusedSimpArgs false
def clerestoryref1_liesIn.j0 : Nat → Int → Int → Bool → List (S43) → Bool → Int → Int → Int → Int → Option (Bool)
 | 0, _, _, _, _, _, _, _, _, _ => none
 | k + 1, x1, x7, x32, x421000, x421001, x422000, x422001, x422002, x422003 => if x32 = true then (some false) else (if 0 ≤ x7 then (if x7 < (x421000.length : Int) then ((clerestoryref1_placeIn.f k ((q00 x421000 x7).f5) x1).bind fun t426 => ((clerestoryref1_markOf.f k x421000 x421001 x422000 x422001).bind fun t427 => ((clerestoryref1_markOf.f k x421000 x421001 x7 t426).bind fun t428 => (if t427 ≤ t428 then ((clerestoryref1_markOf.f k x421000 x421001 x7 (wrap64 (t426 + 1))).bind fun t429 => ((clerestoryref1_markOf.f k x421000 x421001 x422002 x422003).bind fun t430 => (some (decide (t429 ≤ t430))))) else (some false))))) else (none)) else (none))
def clerestoryref1_liesIn.f (k : Nat) (l0_0 : List (S43)) (a0_1 : Bool) (a1 : Int) (a2_0 : Int) (a2_1 : Int) (a2_2 : Int) (a2_3 : Int) : Option (Bool) := if 0 ≤ a1 then (if a1 < (l0_0.length : Int) then (if ((q00 l0_0 a1).f4) < 0 then (clerestoryref1_liesIn.j0 k a1 ((q00 l0_0 a1).f4) true l0_0 a0_1 a2_0 a2_1 a2_2 a2_3) else ((clerestoryref1_Under.f k l0_0 a0_1 a2_0 a1).bind fun t423 => (if t423 = true then (clerestoryref1_liesIn.j0 k a1 ((q00 l0_0 a1).f4) true l0_0 a0_1 a2_0 a2_1 a2_2 a2_3) else ((clerestoryref1_Under.f k l0_0 a0_1 a2_2 a1).bind fun t424 => (clerestoryref1_liesIn.j0 k a1 ((q00 l0_0 a1).f4) t424 l0_0 a0_1 a2_0 a2_1 a2_2 a2_3))))) else (none)) else (none)
def clerestoryref1_liesIn.T5 : Bool × List (List Nat × List Nat) := (true, [([], []), ([], []), ([1], [1]), ([0, 2], [0, 2]), ([], []), ([], []), ([], []), ([5, 6], [5, 6]), ([4, 7, 3], [4, 7]), ([3, 8], [3, 8]), ([9, 8], [9]), ([10], [10]), ([10], [10]), ([10], [10]), ([13, 10], [10, 13]), ([12, 14, 10], [10, 12, 14]), ([11, 15, 10, 10], [10, 11, 15]), ([10], [10]), ([10], [10]), ([18, 10], [10, 18]), ([17, 19, 16, 10], [10, 17, 19]), ([16, 20, 10], [10, 16, 20]), ([10, 21], [10, 21]), ([22, 20, 0, 1, 2, 3, 4, 5, 6, 7, 8, 9, 10, 11, 12, 13, 14, 15, 16, 17, 18, 19, 20, 21, 22], [22])])
def clerestoryref1_liesIn.B5 : List Nat := [0, 0, 2, 7, 0, 0, 0, 96, 255, 511, 1023, 2047, 2047, 2047, 10239, 30719, 65535, 2047, 2047, 264191, 1048575, 2097151, 4194303, 8388607]
theorem clerestoryref1_liesIn.tab5 : rtab .any (opsOf Tryd.f85 5) = clerestoryref1_liesIn.T5 := by kernel_rfl
theorem clerestoryref1_liesIn.bits5 : waitsOk clerestoryref1_liesIn.T5.2 clerestoryref1_liesIn.B5 = true := by kernel_rfl
set_option maxHeartbeats 8000000 in
set_option maxRecDepth 100000 in
theorem clerestoryref1_liesIn.calls (k : Nat) (A0_0 : Option Addr) (c0_0 : Nat) (l0_0 : List (S43)) (a0_1 : Bool) (a1 : Int) (a2_0 : Int) (a2_1 : Int) (a2_2 : Int) (a2_3 : Int) (r : Bool) (w : World) (hr0_0 : Kd.C k43 w A0_0 l0_0.length l0_0) (hc0_0 : l0_0.length ≤ c0_0) (h : clerestoryref1_liesIn.f k l0_0 a0_1 a1 a2_0 a2_1 a2_2 a2_3 = some r) :
 Calls Tryd.prog 85 #[.agg #[.slice A0_0 l0_0.length c0_0, .bool a0_1], .int .i64 a1, .agg #[.int .i64 a2_0, .int .i64 a2_1, .int .i64 a2_2, .int .i64 a2_3]] w fun e w' => e = .returned (.bool r) ∧ Below w.heap.size w w' := by
 have hu24 := Tryd.underlying24
 have hu52 := Tryd.underlying52
 have hu50 := Tryd.underlying50
 have HR0_0 := aS hr0_0
 have HC0_0 := aS hc0_0
 clear hr0_0 hc0_0
 have HB := aS (Below.refl w.heap.size w)
 have H := h; clear h; unfold clerestoryref1_liesIn.f at H
 refine iLp H ?_; clear H; intro c4b0 H
 refine iTp H ?_; clear H; intro c5b0 H
 have HC6 := aS H
 clear H
 go_enter Tryd.func85, Tryd.ntmps85
 go_upto_region 2 with (first | ((with_reducible refine q07 (N := 3) rfl ?_); refine box0 rfl (N := 3) rfl (cs := #[.slice A0_0 l0_0.length c0_0, .bool a0_1]) (t := 24) zh (z7 HB.out) ?_; clear HB; intro gb420 w7 BK420 GW420 HB; have GE420 := GW420) | ((with_reducible refine q07 (N := 5) rfl ?_); refine q0j ?hg (N := 5) ?hd (cs := #[.int .i64 a2_0, .int .i64 a2_1, .int .i64 a2_2, .int .i64 a2_3]) (t := 52) ?hr ?_; (case hd => rfl); (case hg => rfl); (case hr => first | (go_simp; done) | (go_simp; rfl)); intro gb421 hg w8 hbox hb; have n0_ := aS (q01 (g := gb420) (o := .cells #[.slice A0_0 l0_0.length c0_0, .bool a0_1] 24 (0, 0)) (za BK420.out) hb); have n1_ := aS (q02 (z6 HB.out GE420.out) hb); have n2_ := aS (hbox); have n3_ := aS ((by rw [hg]; exact (q06 (z6 HB.out GE420.out)) : w.heap.size ≤ gb421)); have n4_ := aS ((by rw [hg]; exact (q06 (z6 HB.out GE420.out)) : w.heap.size ≤ gb421)); have n5_ := aS ((by rw [hg]; exact Nat.ne_of_lt (q0i (g := gb420) (o := .cells #[.slice A0_0 l0_0.length c0_0, .bool a0_1] 24 (0, 0)) (za BK420.out)) : gb420 ≠ gb421)); have n6_ := aS ((by rw [hg]; exact Nat.ne_of_gt (q0i (g := gb420) (o := .cells #[.slice A0_0 l0_0.length c0_0, .bool a0_1] 24 (0, 0)) (za BK420.out)) : gb421 ≠ gb420)); clear BK420; clear HB; have BK420 := n0_; have HB := n1_; have BK421 := n2_; have GW421 := n3_; have GE421 := n4_; have NB420_421 := n5_; have NB421_420 := n6_; clear n0_ n1_ n2_ n3_ n4_ n5_ n6_; clear hb hbox hg; have hnb9 := NB420_421.out; have hnc9 := NB421_420.out; obtain ⟨hczL_0, hczL_1, hfzL_0, hfzL_1⟩ := bk2 BK420.out; obtain ⟨ad422, A422_2, c422_2, A422_5, c422_5, e422, hx422_0, hx422_1, hx422_2, hx422_3, hx422_4, hx422_5, HC422_2, HR422_2, HC422_5, HR422_5, p422, q422⟩ := q0o HB.out HR0_0.out a1 zb zb; cases e422))
 (try simp only [Act.put, s1, s2, s3])
 go_cut [32] (fun v32 wc => ∃ (kq : Nat) (x32_5 : Bool), v32 = .bool x32_5 ∧ Aside0 (clerestoryref1_liesIn.j0 kq a1 ((q00 l0_0 a1).f4) x32_5 l0_0 a0_1 a2_0 a2_1 a2_2 a2_3 = some r) ∧ Aside0 (kq ≤ k) ∧ Aside0 (wc.heap[gb420]? = some (.cells #[(.slice (some ad422) l0_0.length c0_0), .bool a0_1] 24 (0, 0))) ∧ Aside0 (wc.heap[gb421]? = some (.cells #[.int .i64 a2_0, .int .i64 a2_1, .int .i64 a2_2, .int .i64 a2_3] 52 (0, 0))) ∧ Aside0 (Below w.heap.size w wc))
 case first =>
  have H := HC6.out
  clear HC6
  refine iT H ?p11 ?n11 <;> clear H
  case' p11 => intro c11b0 H
  case' n11 => intro c11b0 H; (first | rw [c11b0] | (simp only [q09, q0a]; rw [c11b0]) | skip); replace H := iB H; obtain ⟨t423, A12, H⟩ := H; refine iV H ?p13 ?n13 <;> clear H
  case' p13 => intro c13 H; subst c13
  case' n13 => intro c13 H; subst c13
  case p11 =>
   (first | rw [c11b0] | (simp only [q09, q0a]; rw [c11b0]) | skip)
   have H' := aS H
   clear H
   go_wp2
   go_meet
   case rel => exact ⟨_, _, zi, H', ⟨by first | omega | exact Nat.le_refl _⟩, ⟨by (with_reducible repeat (first | refine kN ?_ _ | refine kD ?_ | refine kA ?_ _)); exact BK420.out⟩, ⟨by (with_reducible repeat (first | refine kN ?_ _ | refine kD ?_ | refine kA ?_ _)); exact BK421.out⟩, ⟨by repeat (first | (with_reducible first | exact HB.out | apply bA | apply bN | apply bD | refine bS ?_ GE420.out | refine bS ?_ GE421.out) | exact HB.out)⟩⟩
  case p13 =>
   have H' := aS H
   clear H
   have hnb14 := NB420_421.out
   have hnc14 := NB421_420.out
   obtain ⟨hczL_0, hczL_1, hfzL_0, hfzL_1⟩ := bk2 BK420.out
   obtain ⟨hczL_0, hczL_1, hczL_2, hczL_3, hfzL_0, hfzL_1, hfzL_2, hfzL_3⟩ := bk4 BK421.out
   go_wp2_with (first | (go_at_call 26; (with_reducible refine (clerestoryref1_Under.calls k _ _ l0_0 a0_1 a2_0 a1 true _ ?side1 ?side2 A12.out).mono ?_); (case side1 => repeat (first | exact (Kd.C_below HR0_0.out HB.out) | (with_reducible refine cA ?_ _) | (with_reducible refine cN ?_ _) | (with_reducible refine cD ?_))); (case side2 => exact HC0_0.out); rintro e w17 ⟨rfl, hb⟩; replace BK420 := aS (q01 (g := gb420) (o := .cells #[.slice (some ad422) l0_0.length c0_0, .bool a0_1] 24 (0, 0)) (za BK420.out) hb); replace BK421 := aS (q01 (g := gb421) (o := .cells #[.int .i64 a2_0, .int .i64 a2_1, .int .i64 a2_2, .int .i64 a2_3] 52 (0, 0)) (za BK421.out) hb); replace HB := aS (q02 (by repeat (first | (with_reducible first | exact HB.out | apply bA | apply bN | apply bD | refine bS ?_ GE420.out | refine bS ?_ GE421.out) | exact HB.out)) hb); (try clear hb); (try clear hb2); (try clear hk); (try clear hi)))
   go_meet
   case rel => exact ⟨_, _, zi, H', ⟨by first | omega | exact Nat.le_refl _⟩, ⟨by (with_reducible repeat (first | refine kN ?_ _ | refine kD ?_ | refine kA ?_ _)); exact BK420.out⟩, ⟨by (with_reducible repeat (first | refine kN ?_ _ | refine kD ?_ | refine kA ?_ _)); exact BK421.out⟩, ⟨by repeat (first | (with_reducible first | exact HB.out | apply bA | apply bN | apply bD | refine bS ?_ GE420.out | refine bS ?_ GE421.out) | exact HB.out)⟩⟩
  case n13 =>
   replace H := iB H
   obtain ⟨t424, A18, H⟩ := H
   have H' := aS H
   clear H
   have hnb19 := NB420_421.out
   have hnc19 := NB421_420.out
   obtain ⟨hczL_0, hczL_1, hfzL_0, hfzL_1⟩ := bk2 BK420.out
   obtain ⟨hczL_0, hczL_1, hczL_2, hczL_3, hfzL_0, hfzL_1, hfzL_2, hfzL_3⟩ := bk4 BK421.out
   go_wp2_with (first | (go_at_call 26; (with_reducible refine (clerestoryref1_Under.calls k _ _ l0_0 a0_1 a2_0 a1 false _ ?side1 ?side2 A12.out).mono ?_); (case side1 => repeat (first | exact (Kd.C_below HR0_0.out HB.out) | (with_reducible refine cA ?_ _) | (with_reducible refine cN ?_ _) | (with_reducible refine cD ?_))); (case side2 => exact HC0_0.out); rintro e w22 ⟨rfl, hb⟩; replace BK420 := aS (q01 (g := gb420) (o := .cells #[.slice (some ad422) l0_0.length c0_0, .bool a0_1] 24 (0, 0)) (za BK420.out) hb); replace BK421 := aS (q01 (g := gb421) (o := .cells #[.int .i64 a2_0, .int .i64 a2_1, .int .i64 a2_2, .int .i64 a2_3] 52 (0, 0)) (za BK421.out) hb); replace HB := aS (q02 (by repeat (first | (with_reducible first | exact HB.out | apply bA | apply bN | apply bD | refine bS ?_ GE420.out | refine bS ?_ GE421.out) | exact HB.out)) hb); (try clear hb); (try clear hb2); (try clear hk); (try clear hi); obtain ⟨hczL_0, hczL_1, hfzL_0, hfzL_1⟩ := bk2 BK420.out; obtain ⟨hczL_0, hczL_1, hczL_2, hczL_3, hfzL_0, hfzL_1, hfzL_2, hfzL_3⟩ := bk4 BK421.out) | (go_at_call 26; (with_reducible refine (clerestoryref1_Under.calls k _ _ l0_0 a0_1 a2_2 a1 t424 _ ?side1 ?side2 A18.out).mono ?_); (case side1 => repeat (first | exact (Kd.C_below HR0_0.out HB.out) | (with_reducible refine cA ?_ _) | (with_reducible refine cN ?_ _) | (with_reducible refine cD ?_))); (case side2 => exact HC0_0.out); rintro e w25 ⟨rfl, hb⟩; replace BK420 := aS (q01 (g := gb420) (o := .cells #[.slice (some ad422) l0_0.length c0_0, .bool a0_1] 24 (0, 0)) (za BK420.out) hb); replace BK421 := aS (q01 (g := gb421) (o := .cells #[.int .i64 a2_0, .int .i64 a2_1, .int .i64 a2_2, .int .i64 a2_3] 52 (0, 0)) (za BK421.out) hb); replace HB := aS (q02 (by repeat (first | (with_reducible first | exact HB.out | apply bA | apply bN | apply bD | refine bS ?_ GE420.out | refine bS ?_ GE421.out) | exact HB.out)) hb); (try clear hb); (try clear hb2); (try clear hk); (try clear hi)))
   go_meet
   case rel => exact ⟨_, (t424), zi, H', ⟨by first | omega | exact Nat.le_refl _⟩, ⟨by (with_reducible repeat (first | refine kN ?_ _ | refine kD ?_ | refine kA ?_ _)); exact BK420.out⟩, ⟨by (with_reducible repeat (first | refine kN ?_ _ | refine kD ?_ | refine kA ?_ _)); exact BK421.out⟩, ⟨by repeat (first | (with_reducible first | exact HB.out | apply bA | apply bN | apply bD | refine bS ?_ GE420.out | refine bS ?_ GE421.out) | exact HB.out)⟩⟩
 case rest =>
  clear HC6
  obtain ⟨kq, x32_5, rfl, HA, HJ5, BK420, BK421, HB⟩ := hcut
  cases kq with
  | zero => exact absurd HA.out (by simp [clerestoryref1_liesIn.j0])
  | succ kj5 =>
   have H := HA.out
   clear HA
   simp only [clerestoryref1_liesIn.j0] at H
   refine iV H ?p26 ?n26 <;> clear H
   case' p26 => intro c26 H; subst c26
   case' n26 => intro c26 H; subst c26; refine iLp H ?_; clear H; intro c27b0 H; refine iTp H ?_; clear H; intro c28b0 H; replace H := iB H; obtain ⟨t426, A29, H⟩ := H; replace H := iB H; obtain ⟨t427, A30, H⟩ := H; replace H := iB H; obtain ⟨t428, A31, H⟩ := H; refine iL H ?p32 ?n32 <;> clear H
   case' p32 => intro c32b0 H
   case' n32 => intro c32b0 H
   case p26 =>
    obtain rfl := Option.some.inj H
    go_wp2
    go_ret
    exact ⟨by first | rfl | (simp [q05, q04] <;> rfl) | (simp [*, q05, q04] <;> rfl), by repeat (first | (with_reducible first | exact HB.out | apply bA | apply bN | apply bD | refine bS ?_ GE420.out | refine bS ?_ GE421.out) | exact HB.out)⟩
   case p32 =>
    replace H := iB H
    obtain ⟨t429, A33, H⟩ := H
    replace H := iB H
    obtain ⟨t430, A34, H⟩ := H
    obtain rfl := Option.some.inj H
    have hnb35 := NB420_421.out
    have hnc35 := NB421_420.out
    obtain ⟨hczL_0, hczL_1, hfzL_0, hfzL_1⟩ := bk2 BK420.out
    obtain ⟨ad425, A425_2, c425_2, A425_5, c425_5, e425, hx425_0, hx425_1, hx425_2, hx425_3, hx425_4, hx425_5, HC425_2, HR425_2, HC425_5, HR425_5, p425, q425⟩ := q0o HB.out HR0_0.out ((q00 l0_0 a1).f4) zb zb
    obtain rfl : ad422 = ad425 := (by injection e425)
    try go_wp2_with (first | ((with_reducible refine q08 (f := 74) rfl ?_); refine q0n (some 40) rfl rfl Tryd.func74 (by kernel_rfl) rfl #[.slice A425_5 ((q00 l0_0 ((q00 l0_0 a1).f4)).f5).length c425_5, .int .i64 a1] rfl zc ?_; (with_reducible refine (clerestoryref1_placeIn.calls kj5 _ _ ((q00 l0_0 ((q00 l0_0 a1).f4)).f5) a1 t426 _ ?side1 ?side2 A29.out).mono ?_); (case side1 => repeat (first | exact (Kd.C_below HR425_5.out HB.out) | (with_reducible refine cA ?_ _) | (with_reducible refine cN ?_ _) | (with_reducible refine cD ?_))); (case side2 => exact HC425_5.out); rintro e w' ⟨rfl, ⟨nd, rfl⟩⟩; refine ⟨_, rfl, ?_⟩))
    (try (rw [drewN_self wc]; generalize hq_ : World.drewN wc _ = wc; have n0_ : Aside0 (wc.heap[gb420]? = some (.cells #[.slice (some ad422) l0_0.length c0_0, .bool a0_1] 24 (0, 0))) := ⟨by rw [← hq_]; exact (za BK420.out)⟩; have n1_ : Aside0 (wc.heap[gb421]? = some (.cells #[.int .i64 a2_0, .int .i64 a2_1, .int .i64 a2_2, .int .i64 a2_3] 52 (0, 0))) := ⟨by rw [← hq_]; exact (za BK421.out)⟩; have n2_ : Aside0 (Below w.heap.size w wc) := ⟨by rw [← hq_]; exact (by repeat (first | (with_reducible first | exact HB.out | apply bA | apply bN | apply bD | refine bS ?_ GE420.out | refine bS ?_ GE421.out) | exact HB.out))⟩; clear BK420 BK421 HB hq_; have BK420 := n0_; have BK421 := n1_; have HB := n2_; clear n0_ n1_ n2_))
    have n0_ := aS (q0v BK420.out)
    have n1_ := aS (q0v BK421.out)
    have n2_ := aS (q0t HB.out)
    clear BK420
    clear BK421
    clear HB
    have BK420 := n0_
    have BK421 := n1_
    have HB := n2_
    clear n0_ n1_ n2_
    refine start_ (n := 24) (S := fun w' => w'.cell? ⟨gb420, 0, none⟩ = some (.slice (some ad422) l0_0.length c0_0) ∧ w'.cell? ⟨gb420, 1, none⟩ = some (.bool a0_1) ∧ w'.cell? ⟨gb421, 0, none⟩ = some (.int .i64 a2_0) ∧ w'.cell? ⟨gb421, 1, none⟩ = some (.int .i64 a2_1) ∧ w'.cell? ⟨gb421, 2, none⟩ = some (.int .i64 a2_2) ∧ w'.cell? ⟨gb421, 3, none⟩ = some (.int .i64 a2_3)) (ds := []) #[false, false, false, false, false, false, false, false, false, false, false, false, false, false, false, false, false, false, false, false, false, false, false, false] (by kernel_rfl) rfl rfl ⟨(q03 BK420.out 0).trans rfl, (q03 BK420.out 1).trans rfl, (q03 BK421.out 0).trans rfl, (q03 BK421.out 1).trans rfl, (q03 BK421.out 2).trans rfl, (q03 BK421.out 3).trans rfl⟩ (fun hHeld => ?_); refine q14 clerestoryref1_liesIn.tab5 clerestoryref1_liesIn.bits5 (fun HT_ HW_ => ?_)
    generalize wc.drew = w37 at BK420 BK421 HB hHeld ⊢
    refine q0e (i := 1) (N := some 42) (v := ?_) (a' := ?_) #[false, true, false, false, false, false, false, false, false, false, false, false, false, false, false, false, false, false, false, false, false, false, false, false] rfl rfl (q0b HT_.out (by kernel_rfl)) (fun _ _ _ h => h) (Or.inl ⟨by rfl, ?_⟩) ?_ ?_
    rotate_left
    ·intro w'
     go_simp
     with_reducible rfl
    rotate_left
    ·simp only [Act.put, s1, s2, s3, q09, q0a]
     rfl
    refine q0e (i := 5) (N := some 46) (v := ?_) (a' := ?_) #[false, true, false, false, false, true, false, false, false, false, false, false, false, false, false, false, false, false, false, false, false, false, false, false] rfl rfl (q0b HT_.out (by kernel_rfl)) (fun _ _ _ h => h) (Or.inl ⟨by rfl, ?_⟩) ?_ ?_
    rotate_left
    ·intro w'
     go_simp
     with_reducible rfl
    rotate_left
    ·simp only [Act.put, s1, s2, s3, q09, q0a]
     rfl
    refine q0e (i := 6) (N := some 47) (v := ?_) (a' := ?_) #[false, true, false, false, false, true, true, false, false, false, false, false, false, false, false, false, false, false, false, false, false, false, false, false] rfl rfl (q0b HT_.out (by kernel_rfl)) (fun _ _ _ h => h) (Or.inl ⟨by rfl, ?_⟩) ?_ ?_
    rotate_left
    ·intro w'
     go_simp
     with_reducible rfl
    rotate_left
    ·simp only [Act.put, s1, s2, s3, q09, q0a]
     rfl
    refine q0e (i := 7) (N := some 48) (v := ?_) (a' := ?_) #[false, true, false, false, false, true, true, true, false, false, false, false, false, false, false, false, false, false, false, false, false, false, false, false] rfl rfl (q0b HT_.out (by kernel_rfl)) (fun _ _ _ h => h) (Or.inl ⟨by rfl, ?_⟩) ?_ ?_
    rotate_left
    ·intro w'
     go_simp
     with_reducible rfl
    rotate_left
    ·simp only [Act.put, s1, s2, s3, q09, q0a]
     rfl
    refine take_ (i := 0) (N := some 41) (v := ?_) (a' := ?_) #[true, true, false, false, false, true, true, true, false, false, false, false, false, false, false, false, false, false, false, false, false, false, false, false] rfl rfl (q0m HT_.out HW_.out (by kernel_rfl)) (fun _ _ _ h => h) (Or.inl ⟨by rfl, ?_⟩) hHeld ?_ ?_
    rotate_left
    ·rintro w' ⟨s0, s1, s2, s3, s4, s5⟩
     go_simp
     with_reducible rfl
    rotate_left
    ·simp only [Act.put, s1, s2, s3, q09, q0a]
     rfl
    refine take_ (i := 2) (N := some 43) (v := ?_) (a' := ?_) #[true, true, true, false, false, true, true, true, false, false, false, false, false, false, false, false, false, false, false, false, false, false, false, false] rfl rfl (q0m HT_.out HW_.out (by kernel_rfl)) (fun _ _ _ h => h) (Or.inl ⟨by rfl, ?_⟩) hHeld ?_ ?_
    rotate_left
    ·rintro w' ⟨s0, s1, s2, s3, s4, s5⟩
     go_simp
     with_reducible rfl
    rotate_left
    ·simp only [Act.put, s1, s2, s3, q09, q0a]
     rfl
    refine take_ (i := 4) (N := some 45) (v := ?_) (a' := ?_) #[true, true, true, false, true, true, true, true, false, false, false, false, false, false, false, false, false, false, false, false, false, false, false, false] rfl rfl (q0m HT_.out HW_.out (by kernel_rfl)) (fun _ _ _ h => h) (Or.inl ⟨by rfl, ?_⟩) hHeld ?_ ?_
    rotate_left
    ·rintro w' ⟨s0, s1, s2, s3, s4, s5⟩
     go_simp
     with_reducible rfl
    rotate_left
    ·simp only [Act.put, s1, s2, s3, q09, q0a]
     rfl
    refine one_ (i := 3) (N := some 44) #[true, true, true, true, true, true, true, true, false, false, false, false, false, false, false, false, false, false, false, false, false, false, false, false] rfl rfl (q1j HT_.out (by kernel_rfl)) (by decide) (fun K hK => ?_)
    refine goes_ Tryd.func84 (by kernel_rfl) rfl #[.agg #[.slice (some ad422) l0_0.length c0_0, .bool a0_1], .agg #[.int .i64 a2_0, .int .i64 a2_1]] (by rfl) rfl rfl zc ?_
    with_reducible refine (clerestoryref1_markOf.calls kj5 _ _ l0_0 a0_1 a2_0 a2_1 t427 _ ?side1 ?side2 A30.out).mono ?_
    (case side1 => repeat (first | exact (Kd.C_below HR0_0.out HB.out) | (with_reducible refine cA ?_ _) | (with_reducible refine cN ?_ _) | (with_reducible refine cD ?_)))
    (case side2 => exact HC0_0.out)
    rintro e w38 ⟨rfl, hb⟩
    refine ⟨_, rfl, ?_⟩
    have n0_ := aS (q01 (g := gb420) (o := .cells #[.slice (some ad422) l0_0.length c0_0, .bool a0_1] 24 (0, 0)) (za BK420.out) hb)
    have n1_ := aS (q01 (g := gb421) (o := .cells #[.int .i64 a2_0, .int .i64 a2_1, .int .i64 a2_2, .int .i64 a2_3] 52 (0, 0)) (za BK421.out) hb)
    have n2_ := aS (q02 (by repeat (first | (with_reducible first | exact HB.out | apply bA | apply bN | apply bD | refine bS ?_ GE420.out | refine bS ?_ GE421.out) | exact HB.out)) hb)
    clear BK420
    clear BK421
    clear HB
    have BK420 := n0_
    have BK421 := n1_
    have HB := n2_
    clear n0_ n1_ n2_
    (try clear hb)
    (try clear hb2)
    (try clear hk)
    (try clear hi)
    refine hK.out _ _ ⟨(q03 BK420.out 0).trans rfl, (q03 BK420.out 1).trans rfl, (q03 BK421.out 0).trans rfl, (q03 BK421.out 1).trans rfl, (q03 BK421.out 2).trans rfl, (q03 BK421.out 3).trans rfl⟩ (fun hHeld => ?_)
    clear hK K
    refine norm_ (a' := ?_) ?_ ?_
    rotate_left
    ·show Act.put _ (some 44) _ = _
     simp only [Act.put, s1, s2, s3, q09, q0a]
     rfl
    refine one_ (i := 8) (N := some 49) #[true, true, true, true, true, true, true, true, true, false, false, false, false, false, false, false, false, false, false, false, false, false, false, false] rfl rfl (q1j HT_.out (by kernel_rfl)) (by decide) (fun K hK => ?_)
    refine goes_ Tryd.func84 (by kernel_rfl) rfl #[.agg #[.slice (some ad422) l0_0.length c0_0, .bool a0_1], .agg #[.int .i64 ((q00 l0_0 a1).f4), .int .i64 t426]] (by rfl) rfl rfl zc ?_
    with_reducible refine (clerestoryref1_markOf.calls kj5 _ _ l0_0 a0_1 ((q00 l0_0 a1).f4) t426 t428 _ ?side1 ?side2 A31.out).mono ?_
    (case side1 => repeat (first | exact (Kd.C_below HR0_0.out HB.out) | (with_reducible refine cA ?_ _) | (with_reducible refine cN ?_ _) | (with_reducible refine cD ?_)))
    (case side2 => exact HC0_0.out)
    rintro e w39 ⟨rfl, hb⟩
    refine ⟨_, rfl, ?_⟩
    have n0_ := aS (q01 (g := gb420) (o := .cells #[.slice (some ad422) l0_0.length c0_0, .bool a0_1] 24 (0, 0)) (za BK420.out) hb)
    have n1_ := aS (q01 (g := gb421) (o := .cells #[.int .i64 a2_0, .int .i64 a2_1, .int .i64 a2_2, .int .i64 a2_3] 52 (0, 0)) (za BK421.out) hb)
    have n2_ := aS (q02 (by repeat (first | (with_reducible first | exact HB.out | apply bA | apply bN | apply bD | refine bS ?_ GE420.out | refine bS ?_ GE421.out) | exact HB.out)) hb)
    clear BK420
    clear BK421
    clear HB
    have BK420 := n0_
    have BK421 := n1_
    have HB := n2_
    clear n0_ n1_ n2_
    (try clear hb)
    (try clear hb2)
    (try clear hk)
    (try clear hi)
    refine hK.out _ _ ⟨(q03 BK420.out 0).trans rfl, (q03 BK420.out 1).trans rfl, (q03 BK421.out 0).trans rfl, (q03 BK421.out 1).trans rfl, (q03 BK421.out 2).trans rfl, (q03 BK421.out 3).trans rfl⟩ (fun hHeld => ?_)
    clear hK K
    refine norm_ (a' := ?_) ?_ ?_
    rotate_left
    ·show Act.put _ (some 49) _ = _
     simp only [Act.put, s1, s2, s3, q09, q0a]
     rfl
    refine q0e (i := 9) (N := some 50) (v := ?_) (a' := ?_) #[true, true, true, true, true, true, true, true, true, true, false, false, false, false, false, false, false, false, false, false, false, false, false, false] rfl rfl (q0b HT_.out (by kernel_rfl)) (fun _ _ _ h => h) (Or.inl ⟨by rfl, ?_⟩) ?_ ?_
    rotate_left
    ·intro w'
     go_simp
     with_reducible rfl
    rotate_left
    ·simp only [Act.put, s1, s2, s3, q09, q0a]
     rfl
    refine q0e (i := 10) (N := some 51) (v := ?_) (a' := ?_) #[true, true, true, true, true, true, true, true, true, true, true, false, false, false, false, false, false, false, false, false, false, false, false, false] rfl rfl (q0b HT_.out (by kernel_rfl)) (fun _ _ _ h => h) (Or.inl ⟨by rfl, ?_⟩) ?_ ?_
    rotate_left
    ·intro w'
     go_simp
     with_reducible rfl
    rotate_left
    ·simp only [Act.put, s1, s2, s3, q09, q0a]
     rfl
    refine q0e (i := 12) (N := some 53) (v := ?_) (a' := ?_) #[true, true, true, true, true, true, true, true, true, true, true, false, true, false, false, false, false, false, false, false, false, false, false, false] rfl rfl (q0b HT_.out (by kernel_rfl)) (fun _ _ _ h => h) (Or.inl ⟨by rfl, ?_⟩) ?_ ?_
    rotate_left
    ·intro w'
     go_simp
     with_reducible rfl
    rotate_left
    ·simp only [Act.put, s1, s2, s3, q09, q0a]
     rfl
    refine q0e (i := 13) (N := some 54) (v := ?_) (a' := ?_) #[true, true, true, true, true, true, true, true, true, true, true, false, true, true, false, false, false, false, false, false, false, false, false, false] rfl rfl (q0b HT_.out (by kernel_rfl)) (fun _ _ _ h => h) (Or.inl ⟨by rfl, ?_⟩) ?_ ?_
    rotate_left
    ·intro w'
     go_simp
     with_reducible rfl
    rotate_left
    ·simp only [Act.put, s1, s2, s3, q09, q0a]
     rfl
    refine q0e (i := 14) (N := some 55) (v := ?_) (a' := ?_) #[true, true, true, true, true, true, true, true, true, true, true, false, true, true, true, false, false, false, false, false, false, false, false, false] rfl rfl (q0b HT_.out (by kernel_rfl)) (fun _ _ _ h => h) (Or.inl ⟨by rfl, ?_⟩) ?_ ?_
    rotate_left
    ·intro w'
     go_simp
     with_reducible rfl
    rotate_left
    ·simp only [Act.put, s1, s2, s3, q09, q0a]
     rfl
    refine q0e (i := 15) (N := some 56) (v := ?_) (a' := ?_) #[true, true, true, true, true, true, true, true, true, true, true, false, true, true, true, true, false, false, false, false, false, false, false, false] rfl rfl (q0b HT_.out (by kernel_rfl)) (fun _ _ _ h => h) (Or.inl ⟨by rfl, ?_⟩) ?_ ?_
    rotate_left
    ·intro w'
     go_simp
     with_reducible rfl
    rotate_left
    ·simp only [Act.put, s1, s2, s3, q09, q0a]
     rfl
    refine q0e (i := 18) (N := some 59) (v := ?_) (a' := ?_) #[true, true, true, true, true, true, true, true, true, true, true, false, true, true, true, true, false, false, true, false, false, false, false, false] rfl rfl (q0b HT_.out (by kernel_rfl)) (fun _ _ _ h => h) (Or.inl ⟨by rfl, ?_⟩) ?_ ?_
    rotate_left
    ·intro w'
     go_simp
     with_reducible rfl
    rotate_left
    ·simp only [Act.put, s1, s2, s3, q09, q0a]
     rfl
    refine take_ (i := 11) (N := some 52) (v := ?_) (a' := ?_) #[true, true, true, true, true, true, true, true, true, true, true, true, true, true, true, true, false, false, true, false, false, false, false, false] rfl rfl (q0m HT_.out HW_.out (by kernel_rfl)) (fun _ _ _ h => h) (Or.inl ⟨by rfl, ?_⟩) hHeld ?_ ?_
    rotate_left
    ·rintro w' ⟨s0, s1, s2, s3, s4, s5⟩
     go_simp
     with_reducible rfl
    rotate_left
    ·simp only [Act.put, s1, s2, s3, q09, q0a]
     rfl
    refine take_ (i := 17) (N := some 58) (v := ?_) (a' := ?_) #[true, true, true, true, true, true, true, true, true, true, true, true, true, true, true, true, false, true, true, false, false, false, false, false] rfl rfl (q0m HT_.out HW_.out (by kernel_rfl)) (fun _ _ _ h => h) (Or.inl ⟨by rfl, ?_⟩) hHeld ?_ ?_
    rotate_left
    ·rintro w' ⟨s0, s1, s2, s3, s4, s5⟩
     go_simp
     with_reducible rfl
    rotate_left
    ·simp only [Act.put, s1, s2, s3, q09, q0a]
     rfl
    refine take_ (i := 19) (N := some 60) (v := ?_) (a' := ?_) #[true, true, true, true, true, true, true, true, true, true, true, true, true, true, true, true, false, true, true, true, false, false, false, false] rfl rfl (q0m HT_.out HW_.out (by kernel_rfl)) (fun _ _ _ h => h) (Or.inl ⟨by rfl, ?_⟩) hHeld ?_ ?_
    rotate_left
    ·rintro w' ⟨s0, s1, s2, s3, s4, s5⟩
     go_simp
     with_reducible rfl
    rotate_left
    ·simp only [Act.put, s1, s2, s3, q09, q0a]
     rfl
    refine one_ (i := 16) (N := some 57) #[true, true, true, true, true, true, true, true, true, true, true, true, true, true, true, true, true, true, true, true, false, false, false, false] rfl rfl (q1j HT_.out (by kernel_rfl)) (by decide) (fun K hK => ?_)
    refine goes_ Tryd.func84 (by kernel_rfl) rfl #[.agg #[.slice (some ad422) l0_0.length c0_0, .bool a0_1], .agg #[.int .i64 ((q00 l0_0 a1).f4), .int .i64 (wrap64 (t426 + 1))]] (by rfl) rfl rfl zc ?_
    with_reducible refine (clerestoryref1_markOf.calls kj5 _ _ l0_0 a0_1 ((q00 l0_0 a1).f4) (wrap64 (t426 + 1)) t429 _ ?side1 ?side2 A33.out).mono ?_
    (case side1 => repeat (first | exact (Kd.C_below HR0_0.out HB.out) | (with_reducible refine cA ?_ _) | (with_reducible refine cN ?_ _) | (with_reducible refine cD ?_)))
    (case side2 => exact HC0_0.out)
    rintro e w40 ⟨rfl, hb⟩
    refine ⟨_, rfl, ?_⟩
    have n0_ := aS (q01 (g := gb420) (o := .cells #[.slice (some ad422) l0_0.length c0_0, .bool a0_1] 24 (0, 0)) (za BK420.out) hb)
    have n1_ := aS (q01 (g := gb421) (o := .cells #[.int .i64 a2_0, .int .i64 a2_1, .int .i64 a2_2, .int .i64 a2_3] 52 (0, 0)) (za BK421.out) hb)
    have n2_ := aS (q02 (by repeat (first | (with_reducible first | exact HB.out | apply bA | apply bN | apply bD | refine bS ?_ GE420.out | refine bS ?_ GE421.out) | exact HB.out)) hb)
    clear BK420
    clear BK421
    clear HB
    have BK420 := n0_
    have BK421 := n1_
    have HB := n2_
    clear n0_ n1_ n2_
    (try clear hb)
    (try clear hb2)
    (try clear hk)
    (try clear hi)
    refine hK.out _ _ ⟨(q03 BK420.out 0).trans rfl, (q03 BK420.out 1).trans rfl, (q03 BK421.out 0).trans rfl, (q03 BK421.out 1).trans rfl, (q03 BK421.out 2).trans rfl, (q03 BK421.out 3).trans rfl⟩ (fun hHeld => ?_)
    clear hK K
    refine norm_ (a' := ?_) ?_ ?_
    rotate_left
    ·show Act.put _ (some 57) _ = _
     simp only [Act.put, s1, s2, s3, q09, q0a]
     rfl
    refine one_ (i := 20) (N := some 61) #[true, true, true, true, true, true, true, true, true, true, true, true, true, true, true, true, true, true, true, true, true, false, false, false] rfl rfl (q1j HT_.out (by kernel_rfl)) (by decide) (fun K hK => ?_)
    refine goes_ Tryd.func84 (by kernel_rfl) rfl #[.agg #[.slice (some ad422) l0_0.length c0_0, .bool a0_1], .agg #[.int .i64 a2_2, .int .i64 a2_3]] (by rfl) rfl rfl zc ?_
    with_reducible refine (clerestoryref1_markOf.calls kj5 _ _ l0_0 a0_1 a2_2 a2_3 t430 _ ?side1 ?side2 A34.out).mono ?_
    (case side1 => repeat (first | exact (Kd.C_below HR0_0.out HB.out) | (with_reducible refine cA ?_ _) | (with_reducible refine cN ?_ _) | (with_reducible refine cD ?_)))
    (case side2 => exact HC0_0.out)
    rintro e w41 ⟨rfl, hb⟩
    refine ⟨_, rfl, ?_⟩
    have n0_ := aS (q01 (g := gb420) (o := .cells #[.slice (some ad422) l0_0.length c0_0, .bool a0_1] 24 (0, 0)) (za BK420.out) hb)
    have n1_ := aS (q01 (g := gb421) (o := .cells #[.int .i64 a2_0, .int .i64 a2_1, .int .i64 a2_2, .int .i64 a2_3] 52 (0, 0)) (za BK421.out) hb)
    have n2_ := aS (q02 (by repeat (first | (with_reducible first | exact HB.out | apply bA | apply bN | apply bD | refine bS ?_ GE420.out | refine bS ?_ GE421.out) | exact HB.out)) hb)
    clear BK420
    clear BK421
    clear HB
    have BK420 := n0_
    have BK421 := n1_
    have HB := n2_
    clear n0_ n1_ n2_
    (try clear hb)
    (try clear hb2)
    (try clear hk)
    (try clear hi)
    refine hK.out _ _ ⟨(q03 BK420.out 0).trans rfl, (q03 BK420.out 1).trans rfl, (q03 BK421.out 0).trans rfl, (q03 BK421.out 1).trans rfl, (q03 BK421.out 2).trans rfl, (q03 BK421.out 3).trans rfl⟩ (fun hHeld => ?_)
    clear hK K
    refine norm_ (a' := ?_) ?_ ?_
    rotate_left
    ·show Act.put _ (some 61) _ = _
     simp only [Act.put, s1, s2, s3, q09, q0a]
     rfl
    refine q0e (i := 21) (N := some 62) (v := ?_) (a' := ?_) #[true, true, true, true, true, true, true, true, true, true, true, true, true, true, true, true, true, true, true, true, true, true, false, false] rfl rfl (q0b HT_.out (by kernel_rfl)) (fun _ _ _ h => h) (Or.inl ⟨by rfl, ?_⟩) ?_ ?_
    rotate_left
    ·intro w'
     go_simp
     with_reducible rfl
    rotate_left
    ·simp only [Act.put, s1, s2, s3, q09, q0a]
     rfl
    refine q0e (i := 22) (N := some 63) (v := ?_) (a' := ?_) #[true, true, true, true, true, true, true, true, true, true, true, true, true, true, true, true, true, true, true, true, true, true, true, false] rfl rfl (q0b HT_.out (by kernel_rfl)) (fun _ _ _ h => h) (Or.inl ⟨by rfl, ?_⟩) ?_ ?_
    rotate_left
    ·intro w'
     go_simp
     with_reducible rfl
    rotate_left
    ·simp only [Act.put, s1, s2, s3, q09, q0a]
     rfl
    refine q0e (i := 23) (N := some 6) (v := ?_) (a' := ?_) #[true, true, true, true, true, true, true, true, true, true, true, true, true, true, true, true, true, true, true, true, true, true, true, true] rfl rfl (q0b HT_.out (by kernel_rfl)) (fun _ _ _ h => h) (Or.inl ⟨by rfl, ?_⟩) ?_ ?_
    rotate_left
    ·intro w'
     go_simp
     with_reducible rfl
    rotate_left
    ·simp only [Act.put, s1, s2, s3, q09, q0a]
     rfl
    refine done_ (q1l HT_.out (by kernel_rfl)) ?_
    try go_wp2
    go_ret
    exact ⟨by first | rfl | (simp [q05, q04] <;> rfl) | (simp [*, q05, q04] <;> rfl), by repeat (first | (with_reducible first | exact HB.out | apply bA | apply bN | apply bD | refine bS ?_ GE420.out | refine bS ?_ GE421.out) | exact HB.out)⟩
   case n32 =>
    obtain rfl := Option.some.inj H
    have hnb42 := NB420_421.out
    have hnc42 := NB421_420.out
    obtain ⟨hczL_0, hczL_1, hfzL_0, hfzL_1⟩ := bk2 BK420.out
    obtain ⟨ad425, A425_2, c425_2, A425_5, c425_5, e425, hx425_0, hx425_1, hx425_2, hx425_3, hx425_4, hx425_5, HC425_2, HR425_2, HC425_5, HR425_5, p425, q425⟩ := q0o HB.out HR0_0.out ((q00 l0_0 a1).f4) zb zb
    obtain rfl : ad422 = ad425 := (by injection e425)
    try go_wp2_with (first | ((with_reducible refine q08 (f := 74) rfl ?_); refine q0n (some 40) rfl rfl Tryd.func74 (by kernel_rfl) rfl #[.slice A425_5 ((q00 l0_0 ((q00 l0_0 a1).f4)).f5).length c425_5, .int .i64 a1] rfl zc ?_; (with_reducible refine (clerestoryref1_placeIn.calls kj5 _ _ ((q00 l0_0 ((q00 l0_0 a1).f4)).f5) a1 t426 _ ?side1 ?side2 A29.out).mono ?_); (case side1 => repeat (first | exact (Kd.C_below HR425_5.out HB.out) | (with_reducible refine cA ?_ _) | (with_reducible refine cN ?_ _) | (with_reducible refine cD ?_))); (case side2 => exact HC425_5.out); rintro e w' ⟨rfl, ⟨nd, rfl⟩⟩; refine ⟨_, rfl, ?_⟩))
    (try (rw [drewN_self wc]; generalize hq_ : World.drewN wc _ = wc; have n0_ : Aside0 (wc.heap[gb420]? = some (.cells #[.slice (some ad422) l0_0.length c0_0, .bool a0_1] 24 (0, 0))) := ⟨by rw [← hq_]; exact (za BK420.out)⟩; have n1_ : Aside0 (wc.heap[gb421]? = some (.cells #[.int .i64 a2_0, .int .i64 a2_1, .int .i64 a2_2, .int .i64 a2_3] 52 (0, 0))) := ⟨by rw [← hq_]; exact (za BK421.out)⟩; have n2_ : Aside0 (Below w.heap.size w wc) := ⟨by rw [← hq_]; exact (by repeat (first | (with_reducible first | exact HB.out | apply bA | apply bN | apply bD | refine bS ?_ GE420.out | refine bS ?_ GE421.out) | exact HB.out))⟩; clear BK420 BK421 HB hq_; have BK420 := n0_; have BK421 := n1_; have HB := n2_; clear n0_ n1_ n2_))
    have n0_ := aS (q0v BK420.out)
    have n1_ := aS (q0v BK421.out)
    have n2_ := aS (q0t HB.out)
    clear BK420
    clear BK421
    clear HB
    have BK420 := n0_
    have BK421 := n1_
    have HB := n2_
    clear n0_ n1_ n2_
    refine start_ (n := 24) (S := fun w' => w'.cell? ⟨gb420, 0, none⟩ = some (.slice (some ad422) l0_0.length c0_0) ∧ w'.cell? ⟨gb420, 1, none⟩ = some (.bool a0_1) ∧ w'.cell? ⟨gb421, 0, none⟩ = some (.int .i64 a2_0) ∧ w'.cell? ⟨gb421, 1, none⟩ = some (.int .i64 a2_1) ∧ w'.cell? ⟨gb421, 2, none⟩ = some (.int .i64 a2_2) ∧ w'.cell? ⟨gb421, 3, none⟩ = some (.int .i64 a2_3)) (ds := []) #[false, false, false, false, false, false, false, false, false, false, false, false, false, false, false, false, false, false, false, false, false, false, false, false] (by kernel_rfl) rfl rfl ⟨(q03 BK420.out 0).trans rfl, (q03 BK420.out 1).trans rfl, (q03 BK421.out 0).trans rfl, (q03 BK421.out 1).trans rfl, (q03 BK421.out 2).trans rfl, (q03 BK421.out 3).trans rfl⟩ (fun hHeld => ?_); refine q14 clerestoryref1_liesIn.tab5 clerestoryref1_liesIn.bits5 (fun HT_ HW_ => ?_)
    generalize wc.drew = w44 at BK420 BK421 HB hHeld ⊢
    refine q0e (i := 1) (N := some 42) (v := ?_) (a' := ?_) #[false, true, false, false, false, false, false, false, false, false, false, false, false, false, false, false, false, false, false, false, false, false, false, false] rfl rfl (q0b HT_.out (by kernel_rfl)) (fun _ _ _ h => h) (Or.inl ⟨by rfl, ?_⟩) ?_ ?_
    rotate_left
    ·intro w'
     go_simp
     with_reducible rfl
    rotate_left
    ·simp only [Act.put, s1, s2, s3, q09, q0a]
     rfl
    refine q0e (i := 5) (N := some 46) (v := ?_) (a' := ?_) #[false, true, false, false, false, true, false, false, false, false, false, false, false, false, false, false, false, false, false, false, false, false, false, false] rfl rfl (q0b HT_.out (by kernel_rfl)) (fun _ _ _ h => h) (Or.inl ⟨by rfl, ?_⟩) ?_ ?_
    rotate_left
    ·intro w'
     go_simp
     with_reducible rfl
    rotate_left
    ·simp only [Act.put, s1, s2, s3, q09, q0a]
     rfl
    refine q0e (i := 6) (N := some 47) (v := ?_) (a' := ?_) #[false, true, false, false, false, true, true, false, false, false, false, false, false, false, false, false, false, false, false, false, false, false, false, false] rfl rfl (q0b HT_.out (by kernel_rfl)) (fun _ _ _ h => h) (Or.inl ⟨by rfl, ?_⟩) ?_ ?_
    rotate_left
    ·intro w'
     go_simp
     with_reducible rfl
    rotate_left
    ·simp only [Act.put, s1, s2, s3, q09, q0a]
     rfl
    refine q0e (i := 7) (N := some 48) (v := ?_) (a' := ?_) #[false, true, false, false, false, true, true, true, false, false, false, false, false, false, false, false, false, false, false, false, false, false, false, false] rfl rfl (q0b HT_.out (by kernel_rfl)) (fun _ _ _ h => h) (Or.inl ⟨by rfl, ?_⟩) ?_ ?_
    rotate_left
    ·intro w'
     go_simp
     with_reducible rfl
    rotate_left
    ·simp only [Act.put, s1, s2, s3, q09, q0a]
     rfl
    refine take_ (i := 0) (N := some 41) (v := ?_) (a' := ?_) #[true, true, false, false, false, true, true, true, false, false, false, false, false, false, false, false, false, false, false, false, false, false, false, false] rfl rfl (q0m HT_.out HW_.out (by kernel_rfl)) (fun _ _ _ h => h) (Or.inl ⟨by rfl, ?_⟩) hHeld ?_ ?_
    rotate_left
    ·rintro w' ⟨s0, s1, s2, s3, s4, s5⟩
     go_simp
     with_reducible rfl
    rotate_left
    ·simp only [Act.put, s1, s2, s3, q09, q0a]
     rfl
    refine take_ (i := 2) (N := some 43) (v := ?_) (a' := ?_) #[true, true, true, false, false, true, true, true, false, false, false, false, false, false, false, false, false, false, false, false, false, false, false, false] rfl rfl (q0m HT_.out HW_.out (by kernel_rfl)) (fun _ _ _ h => h) (Or.inl ⟨by rfl, ?_⟩) hHeld ?_ ?_
    rotate_left
    ·rintro w' ⟨s0, s1, s2, s3, s4, s5⟩
     go_simp
     with_reducible rfl
    rotate_left
    ·simp only [Act.put, s1, s2, s3, q09, q0a]
     rfl
    refine take_ (i := 4) (N := some 45) (v := ?_) (a' := ?_) #[true, true, true, false, true, true, true, true, false, false, false, false, false, false, false, false, false, false, false, false, false, false, false, false] rfl rfl (q0m HT_.out HW_.out (by kernel_rfl)) (fun _ _ _ h => h) (Or.inl ⟨by rfl, ?_⟩) hHeld ?_ ?_
    rotate_left
    ·rintro w' ⟨s0, s1, s2, s3, s4, s5⟩
     go_simp
     with_reducible rfl
    rotate_left
    ·simp only [Act.put, s1, s2, s3, q09, q0a]
     rfl
    refine one_ (i := 3) (N := some 44) #[true, true, true, true, true, true, true, true, false, false, false, false, false, false, false, false, false, false, false, false, false, false, false, false] rfl rfl (q1j HT_.out (by kernel_rfl)) (by decide) (fun K hK => ?_)
    refine goes_ Tryd.func84 (by kernel_rfl) rfl #[.agg #[.slice (some ad422) l0_0.length c0_0, .bool a0_1], .agg #[.int .i64 a2_0, .int .i64 a2_1]] (by rfl) rfl rfl zc ?_
    with_reducible refine (clerestoryref1_markOf.calls kj5 _ _ l0_0 a0_1 a2_0 a2_1 t427 _ ?side1 ?side2 A30.out).mono ?_
    (case side1 => repeat (first | exact (Kd.C_below HR0_0.out HB.out) | (with_reducible refine cA ?_ _) | (with_reducible refine cN ?_ _) | (with_reducible refine cD ?_)))
    (case side2 => exact HC0_0.out)
    rintro e w45 ⟨rfl, hb⟩
    refine ⟨_, rfl, ?_⟩
    have n0_ := aS (q01 (g := gb420) (o := .cells #[.slice (some ad422) l0_0.length c0_0, .bool a0_1] 24 (0, 0)) (za BK420.out) hb)
    have n1_ := aS (q01 (g := gb421) (o := .cells #[.int .i64 a2_0, .int .i64 a2_1, .int .i64 a2_2, .int .i64 a2_3] 52 (0, 0)) (za BK421.out) hb)
    have n2_ := aS (q02 (by repeat (first | (with_reducible first | exact HB.out | apply bA | apply bN | apply bD | refine bS ?_ GE420.out | refine bS ?_ GE421.out) | exact HB.out)) hb)
    clear BK420
    clear BK421
    clear HB
    have BK420 := n0_
    have BK421 := n1_
    have HB := n2_
    clear n0_ n1_ n2_
    (try clear hb)
    (try clear hb2)
    (try clear hk)
    (try clear hi)
    refine hK.out _ _ ⟨(q03 BK420.out 0).trans rfl, (q03 BK420.out 1).trans rfl, (q03 BK421.out 0).trans rfl, (q03 BK421.out 1).trans rfl, (q03 BK421.out 2).trans rfl, (q03 BK421.out 3).trans rfl⟩ (fun hHeld => ?_)
    clear hK K
    refine norm_ (a' := ?_) ?_ ?_
    rotate_left
    ·show Act.put _ (some 44) _ = _
     simp only [Act.put, s1, s2, s3, q09, q0a]
     rfl
    refine one_ (i := 8) (N := some 49) #[true, true, true, true, true, true, true, true, true, false, false, false, false, false, false, false, false, false, false, false, false, false, false, false] rfl rfl (q1j HT_.out (by kernel_rfl)) (by decide) (fun K hK => ?_)
    refine goes_ Tryd.func84 (by kernel_rfl) rfl #[.agg #[.slice (some ad422) l0_0.length c0_0, .bool a0_1], .agg #[.int .i64 ((q00 l0_0 a1).f4), .int .i64 t426]] (by rfl) rfl rfl zc ?_
    with_reducible refine (clerestoryref1_markOf.calls kj5 _ _ l0_0 a0_1 ((q00 l0_0 a1).f4) t426 t428 _ ?side1 ?side2 A31.out).mono ?_
    (case side1 => repeat (first | exact (Kd.C_below HR0_0.out HB.out) | (with_reducible refine cA ?_ _) | (with_reducible refine cN ?_ _) | (with_reducible refine cD ?_)))
    (case side2 => exact HC0_0.out)
    rintro e w46 ⟨rfl, hb⟩
    refine ⟨_, rfl, ?_⟩
    have n0_ := aS (q01 (g := gb420) (o := .cells #[.slice (some ad422) l0_0.length c0_0, .bool a0_1] 24 (0, 0)) (za BK420.out) hb)
    have n1_ := aS (q01 (g := gb421) (o := .cells #[.int .i64 a2_0, .int .i64 a2_1, .int .i64 a2_2, .int .i64 a2_3] 52 (0, 0)) (za BK421.out) hb)
    have n2_ := aS (q02 (by repeat (first | (with_reducible first | exact HB.out | apply bA | apply bN | apply bD | refine bS ?_ GE420.out | refine bS ?_ GE421.out) | exact HB.out)) hb)
    clear BK420
    clear BK421
    clear HB
    have BK420 := n0_
    have BK421 := n1_
    have HB := n2_
    clear n0_ n1_ n2_
    (try clear hb)
    (try clear hb2)
    (try clear hk)
    (try clear hi)
    refine hK.out _ _ ⟨(q03 BK420.out 0).trans rfl, (q03 BK420.out 1).trans rfl, (q03 BK421.out 0).trans rfl, (q03 BK421.out 1).trans rfl, (q03 BK421.out 2).trans rfl, (q03 BK421.out 3).trans rfl⟩ (fun hHeld => ?_)
    clear hK K
    refine norm_ (a' := ?_) ?_ ?_
    rotate_left
    ·show Act.put _ (some 49) _ = _
     simp only [Act.put, s1, s2, s3, q09, q0a]
     rfl
    refine q0e (i := 9) (N := some 50) (v := ?_) (a' := ?_) #[true, true, true, true, true, true, true, true, true, true, false, false, false, false, false, false, false, false, false, false, false, false, false, false] rfl rfl (q0b HT_.out (by kernel_rfl)) (fun _ _ _ h => h) (Or.inl ⟨by rfl, ?_⟩) ?_ ?_
    rotate_left
    ·intro w'
     go_simp
     with_reducible rfl
    rotate_left
    ·simp only [Act.put, s1, s2, s3, q09, q0a]
     rfl
    refine q0e (i := 10) (N := some 51) (v := ?_) (a' := ?_) #[true, true, true, true, true, true, true, true, true, true, true, false, false, false, false, false, false, false, false, false, false, false, false, false] rfl rfl (q0b HT_.out (by kernel_rfl)) (fun _ _ _ h => h) (Or.inl ⟨by rfl, ?_⟩) ?_ ?_
    rotate_left
    ·intro w'
     go_simp
     with_reducible rfl
    rotate_left
    ·simp only [Act.put, s1, s2, s3, q09, q0a]
     rfl
    refine q0e (i := 11) (N := some 52) (v := undef) (a' := ?_) #[true, true, true, true, true, true, true, true, true, true, true, true, false, false, false, false, false, false, false, false, false, false, false, false] rfl rfl (q0b HT_.out (by kernel_rfl)) (fun _ _ _ h => h) (Or.inr ⟨by rfl, rfl⟩) ?_ ?_
    rotate_left
    ·simp only [Act.put, s1, s2, s3, q09, q0a]
     rfl
    refine q0e (i := 12) (N := some 53) (v := undef) (a' := ?_) #[true, true, true, true, true, true, true, true, true, true, true, true, true, false, false, false, false, false, false, false, false, false, false, false] rfl rfl (q0b HT_.out (by kernel_rfl)) (fun _ _ _ h => h) (Or.inr ⟨by rfl, rfl⟩) ?_ ?_
    rotate_left
    ·simp only [Act.put, s1, s2, s3, q09, q0a]
     rfl
    refine q0e (i := 13) (N := some 54) (v := undef) (a' := ?_) #[true, true, true, true, true, true, true, true, true, true, true, true, true, true, false, false, false, false, false, false, false, false, false, false] rfl rfl (q0b HT_.out (by kernel_rfl)) (fun _ _ _ h => h) (Or.inr ⟨by rfl, rfl⟩) ?_ ?_
    rotate_left
    ·simp only [Act.put, s1, s2, s3, q09, q0a]
     rfl
    refine q0e (i := 14) (N := some 55) (v := undef) (a' := ?_) #[true, true, true, true, true, true, true, true, true, true, true, true, true, true, true, false, false, false, false, false, false, false, false, false] rfl rfl (q0b HT_.out (by kernel_rfl)) (fun _ _ _ h => h) (Or.inr ⟨by rfl, rfl⟩) ?_ ?_
    rotate_left
    ·simp only [Act.put, s1, s2, s3, q09, q0a]
     rfl
    refine q0e (i := 15) (N := some 56) (v := undef) (a' := ?_) #[true, true, true, true, true, true, true, true, true, true, true, true, true, true, true, true, false, false, false, false, false, false, false, false] rfl rfl (q0b HT_.out (by kernel_rfl)) (fun _ _ _ h => h) (Or.inr ⟨by rfl, rfl⟩) ?_ ?_
    rotate_left
    ·simp only [Act.put, s1, s2, s3, q09, q0a]
     rfl
    refine q0e (i := 16) (N := some 57) (v := undef) (a' := ?_) #[true, true, true, true, true, true, true, true, true, true, true, true, true, true, true, true, true, false, false, false, false, false, false, false] rfl rfl (q0b HT_.out (by kernel_rfl)) (fun _ _ _ h => h) (Or.inr ⟨by rfl, rfl⟩) ?_ ?_
    rotate_left
    ·simp only [Act.put, s1, s2, s3, q09, q0a]
     rfl
    refine q0e (i := 17) (N := some 58) (v := undef) (a' := ?_) #[true, true, true, true, true, true, true, true, true, true, true, true, true, true, true, true, true, true, false, false, false, false, false, false] rfl rfl (q0b HT_.out (by kernel_rfl)) (fun _ _ _ h => h) (Or.inr ⟨by rfl, rfl⟩) ?_ ?_
    rotate_left
    ·simp only [Act.put, s1, s2, s3, q09, q0a]
     rfl
    refine q0e (i := 18) (N := some 59) (v := undef) (a' := ?_) #[true, true, true, true, true, true, true, true, true, true, true, true, true, true, true, true, true, true, true, false, false, false, false, false] rfl rfl (q0b HT_.out (by kernel_rfl)) (fun _ _ _ h => h) (Or.inr ⟨by rfl, rfl⟩) ?_ ?_
    rotate_left
    ·simp only [Act.put, s1, s2, s3, q09, q0a]
     rfl
    refine q0e (i := 19) (N := some 60) (v := undef) (a' := ?_) #[true, true, true, true, true, true, true, true, true, true, true, true, true, true, true, true, true, true, true, true, false, false, false, false] rfl rfl (q0b HT_.out (by kernel_rfl)) (fun _ _ _ h => h) (Or.inr ⟨by rfl, rfl⟩) ?_ ?_
    rotate_left
    ·simp only [Act.put, s1, s2, s3, q09, q0a]
     rfl
    refine q0e (i := 20) (N := some 61) (v := undef) (a' := ?_) #[true, true, true, true, true, true, true, true, true, true, true, true, true, true, true, true, true, true, true, true, true, false, false, false] rfl rfl (q0b HT_.out (by kernel_rfl)) (fun _ _ _ h => h) (Or.inr ⟨by rfl, rfl⟩) ?_ ?_
    rotate_left
    ·simp only [Act.put, s1, s2, s3, q09, q0a]
     rfl
    refine q0e (i := 21) (N := some 62) (v := undef) (a' := ?_) #[true, true, true, true, true, true, true, true, true, true, true, true, true, true, true, true, true, true, true, true, true, true, false, false] rfl rfl (q0b HT_.out (by kernel_rfl)) (fun _ _ _ h => h) (Or.inr ⟨by rfl, rfl⟩) ?_ ?_
    rotate_left
    ·simp only [Act.put, s1, s2, s3, q09, q0a]
     rfl
    refine q0e (i := 22) (N := some 63) (v := ?_) (a' := ?_) #[true, true, true, true, true, true, true, true, true, true, true, true, true, true, true, true, true, true, true, true, true, true, true, false] rfl rfl (q0b HT_.out (by kernel_rfl)) (fun _ _ _ h => h) (Or.inl ⟨by rfl, ?_⟩) ?_ ?_
    rotate_left
    ·intro w'
     go_simp
     with_reducible rfl
    rotate_left
    ·simp only [Act.put, s1, s2, s3, q09, q0a]
     rfl
    refine q0e (i := 23) (N := some 6) (v := ?_) (a' := ?_) #[true, true, true, true, true, true, true, true, true, true, true, true, true, true, true, true, true, true, true, true, true, true, true, true] rfl rfl (q0b HT_.out (by kernel_rfl)) (fun _ _ _ h => h) (Or.inl ⟨by rfl, ?_⟩) ?_ ?_
    rotate_left
    ·intro w'
     go_simp
     with_reducible rfl
    rotate_left
    ·simp only [Act.put, s1, s2, s3, q09, q0a]
     rfl
    refine done_ (q1l HT_.out (by kernel_rfl)) ?_
    try go_wp2
    go_ret
    exact ⟨by first | rfl | (simp [q05, q04] <;> rfl) | (simp [*, q05, q04] <;> rfl), by repeat (first | (with_reducible first | exact HB.out | apply bA | apply bN | apply bD | refine bS ?_ GE420.out | refine bS ?_ GE421.out) | exact HB.out)⟩
mutual
def clerestoryref1_SpanCut.l0 : Nat → List (S87) → List Int → Int → List (S43) → Bool → Int → Int → Int → Int → Option ((List (S87)))
 | 0, _, _, _, _, _, _, _, _, _ => none
 | k + 1, x5, x6, x7, x432000, x432001, x433000, x433001, x433002, x433003 => if x7 < (x6.length : Int) then (if 0 ≤ x7 then (if 0 ≤ (rd x6 x7) then (if (rd x6 x7) < (x432000.length : Int) then ((clerestoryref1_liesIn.f k x432000 x432001 (rd x6 x7) x433000 x433001 x433002 x433003).bind fun t439 => (if t439 = true then ((clerestoryref1_liesIn.f k x432000 x432001 ((q00 x432000 (rd x6 x7)).f4) x433000 x433001 x433002 x433003).bind fun t440 => (if t440 = true then (clerestoryref1_SpanCut.l0 k x5 x6 (wrap64 (x7 + 1)) x432000 x432001 x433000 x433001 x433002 x433003) else (if x5.length < 879609302220 then (clerestoryref1_SpanCut.l0 k (x5 ++ [(⟨6, rd x6 x7, 0, 0, (⟨#[]⟩ : ByteArray), (⟨#[]⟩ : ByteArray), (⟨0, (⟨#[]⟩ : ByteArray), ([] : List (S122)), (⟨#[]⟩ : ByteArray), 0, ([] : List Int)⟩ : S43)⟩ : S87)]) x6 (wrap64 (x7 + 1)) x432000 x432001 x433000 x433001 x433002 x433003) else (none)))) else (if ((q00 x432000 (rd x6 x7)).f0) = 3 then (if x433000 = (rd x6 x7) then (clerestoryref1_SpanCut.j1 k x5 x6 x7 (rd x6 x7) false x432000 x432001 x433000 x433001 x433002 x433003 ((q00 x432000 (rd x6 x7)).f0) ((q00 x432000 (rd x6 x7)).f1) ((q00 x432000 (rd x6 x7)).f2) ((q00 x432000 (rd x6 x7)).f3) ((q00 x432000 (rd x6 x7)).f4) ((q00 x432000 (rd x6 x7)).f5)) else (clerestoryref1_SpanCut.j1 k x5 x6 x7 (rd x6 x7) (x433002 != (rd x6 x7)) x432000 x432001 x433000 x433001 x433002 x433003 ((q00 x432000 (rd x6 x7)).f0) ((q00 x432000 (rd x6 x7)).f1) ((q00 x432000 (rd x6 x7)).f2) ((q00 x432000 (rd x6 x7)).f3) ((q00 x432000 (rd x6 x7)).f4) ((q00 x432000 (rd x6 x7)).f5))) else (if ((q00 x432000 (rd x6 x7)).f0) = 4 then (if x433000 = (rd x6 x7) then (clerestoryref1_SpanCut.j1 k x5 x6 x7 (rd x6 x7) false x432000 x432001 x433000 x433001 x433002 x433003 ((q00 x432000 (rd x6 x7)).f0) ((q00 x432000 (rd x6 x7)).f1) ((q00 x432000 (rd x6 x7)).f2) ((q00 x432000 (rd x6 x7)).f3) ((q00 x432000 (rd x6 x7)).f4) ((q00 x432000 (rd x6 x7)).f5)) else (clerestoryref1_SpanCut.j1 k x5 x6 x7 (rd x6 x7) (x433002 != (rd x6 x7)) x432000 x432001 x433000 x433001 x433002 x433003 ((q00 x432000 (rd x6 x7)).f0) ((q00 x432000 (rd x6 x7)).f1) ((q00 x432000 (rd x6 x7)).f2) ((q00 x432000 (rd x6 x7)).f3) ((q00 x432000 (rd x6 x7)).f4) ((q00 x432000 (rd x6 x7)).f5))) else (clerestoryref1_SpanCut.j1 k x5 x6 x7 (rd x6 x7) true x432000 x432001 x433000 x433001 x433002 x433003 ((q00 x432000 (rd x6 x7)).f0) ((q00 x432000 (rd x6 x7)).f1) ((q00 x432000 (rd x6 x7)).f2) ((q00 x432000 (rd x6 x7)).f3) ((q00 x432000 (rd x6 x7)).f4) ((q00 x432000 (rd x6 x7)).f5)))))) else (none)) else (none)) else (none)) else (some x5)
def clerestoryref1_SpanCut.j1 : Nat → List (S87) → List Int → Int → Int → Bool → List (S43) → Bool → Int → Int → Int → Int → Int → ByteArray → List (S122) → ByteArray → Int → List Int → Option ((List (S87)))
 | 0, _, _, _, _, _, _, _, _, _, _, _, _, _, _, _, _, _ => none
 | k + 1, x5, x6, x7, x8, x66, x432000, x432001, x433000, x433001, x433002, x433003, x439000, x439001, x439002, x439003, x439004, x439005 => if x66 = true then (clerestoryref1_SpanCut.l0 k x5 x6 (wrap64 (x7 + 1)) x432000 x432001 x433000 x433001 x433002 x433003) else (clerestoryref1_SpanCut.l1 k x5 x6 x7 x8 (⟨#[]⟩ : ByteArray) 0 x432000 x432001 x433000 x433001 x433002 x433003 x439000 x439001 x439002 x439003 x439004 x439005)
def clerestoryref1_SpanCut.l1 : Nat → List (S87) → List Int → Int → Int → ByteArray → Int → List (S43) → Bool → Int → Int → Int → Int → Int → ByteArray → List (S122) → ByteArray → Int → List Int → Option ((List (S87)))
 | 0, _, _, _, _, _, _, _, _, _, _, _, _, _, _, _, _, _, _ => none
 | k + 1, x5, x6, x7, x8, x10, x11, x432000, x432001, x433000, x433001, x433002, x433003, x439000, x439001, x439002, x439003, x439004, x439005 => if x11 < (x439003.size : Int) then (if x433000 = x8 then (if x11 ≥ x433001 then (if x433002 = x8 then (if x11 < x433003 then (clerestoryref1_SpanCut.l1 k x5 x6 x7 x8 x10 (wrap64 (x11 + 1)) x432000 x432001 x433000 x433001 x433002 x433003 x439000 x439001 x439002 x439003 x439004 x439005) else (if 0 ≤ x11 then (if x11 ≤ (wrap64 (x11 + 1)) then (if (wrap64 (x11 + 1)) ≤ (x439003.size : Int) then (if x10.size + (x439003.extract (x11 : Int).toNat ((wrap64 (x11 + 1)) : Int).toNat).size ≤ 9223372036854775807 then (clerestoryref1_SpanCut.l1 k x5 x6 x7 x8 (x10 ++ (x439003.extract (x11 : Int).toNat ((wrap64 (x11 + 1)) : Int).toNat)) (wrap64 (x11 + 1)) x432000 x432001 x433000 x433001 x433002 x433003 x439000 x439001 x439002 x439003 x439004 x439005) else (none)) else (none)) else (none)) else (none))) else (clerestoryref1_SpanCut.l1 k x5 x6 x7 x8 x10 (wrap64 (x11 + 1)) x432000 x432001 x433000 x433001 x433002 x433003 x439000 x439001 x439002 x439003 x439004 x439005)) else (if 0 ≤ x11 then (if x11 ≤ (wrap64 (x11 + 1)) then (if (wrap64 (x11 + 1)) ≤ (x439003.size : Int) then (if x10.size + (x439003.extract (x11 : Int).toNat ((wrap64 (x11 + 1)) : Int).toNat).size ≤ 9223372036854775807 then (clerestoryref1_SpanCut.l1 k x5 x6 x7 x8 (x10 ++ (x439003.extract (x11 : Int).toNat ((wrap64 (x11 + 1)) : Int).toNat)) (wrap64 (x11 + 1)) x432000 x432001 x433000 x433001 x433002 x433003 x439000 x439001 x439002 x439003 x439004 x439005) else (none)) else (none)) else (none)) else (none))) else (if x433002 = x8 then (if x11 < x433003 then (clerestoryref1_SpanCut.l1 k x5 x6 x7 x8 x10 (wrap64 (x11 + 1)) x432000 x432001 x433000 x433001 x433002 x433003 x439000 x439001 x439002 x439003 x439004 x439005) else (if 0 ≤ x11 then (if x11 ≤ (wrap64 (x11 + 1)) then (if (wrap64 (x11 + 1)) ≤ (x439003.size : Int) then (if x10.size + (x439003.extract (x11 : Int).toNat ((wrap64 (x11 + 1)) : Int).toNat).size ≤ 9223372036854775807 then (clerestoryref1_SpanCut.l1 k x5 x6 x7 x8 (x10 ++ (x439003.extract (x11 : Int).toNat ((wrap64 (x11 + 1)) : Int).toNat)) (wrap64 (x11 + 1)) x432000 x432001 x433000 x433001 x433002 x433003 x439000 x439001 x439002 x439003 x439004 x439005) else (none)) else (none)) else (none)) else (none))) else (clerestoryref1_SpanCut.l1 k x5 x6 x7 x8 x10 (wrap64 (x11 + 1)) x432000 x432001 x433000 x433001 x433002 x433003 x439000 x439001 x439002 x439003 x439004 x439005))) else (if x10.toList = x439003.toList then (clerestoryref1_SpanCut.l0 k x5 x6 (wrap64 (x7 + 1)) x432000 x432001 x433000 x433001 x433002 x433003) else (if x5.length < 879609302220 then (clerestoryref1_SpanCut.l0 k (x5 ++ [(⟨3, x8, 0, 0, (⟨#[]⟩ : ByteArray), x10, (⟨0, (⟨#[]⟩ : ByteArray), ([] : List (S122)), (⟨#[]⟩ : ByteArray), 0, ([] : List Int)⟩ : S43)⟩ : S87)]) x6 (wrap64 (x7 + 1)) x432000 x432001 x433000 x433001 x433002 x433003) else (none)))
end
def clerestoryref1_SpanCut.f (k : Nat) (l0_0 : List (S43)) (a0_1 : Bool) (a1_0 : Int) (a1_1 : Int) (a1_2 : Int) (a1_3 : Int) : Option ((List (S87))) := (clerestoryref1_Below.f k l0_0 a0_1 0).bind fun t433 => (clerestoryref1_SpanCut.l0 k ([] : List (S87)) t433 0 l0_0 a0_1 a1_0 a1_1 a1_2 a1_3)
set_option maxHeartbeats 8000000 in
set_option maxRecDepth 100000 in
theorem clerestoryref1_SpanCut.calls (k : Nat) (A0_0 : Option Addr) (c0_0 : Nat) (l0_0 : List (S43)) (a0_1 : Bool) (a1_0 : Int) (a1_1 : Int) (a1_2 : Int) (a1_3 : Int) (r : List (S87)) (w : World) (hr0_0 : Kd.C k43 w A0_0 l0_0.length l0_0) (hc0_0 : l0_0.length ≤ c0_0) (h : clerestoryref1_SpanCut.f k l0_0 a0_1 a1_0 a1_1 a1_2 a1_3 = some r) :
 Calls Tryd.prog 34 #[.agg #[.slice A0_0 l0_0.length c0_0, .bool a0_1], .agg #[.int .i64 a1_0, .int .i64 a1_1, .int .i64 a1_2, .int .i64 a1_3]] w fun e w' => ∃ v0_ : Value, e = .returned (v0_) ∧ Kd.S k87 87 w' w.heap.size (fun _ => True) v0_ r ∧ Below w.heap.size w w' := by
 have hu24 := Tryd.underlying24
 have hu52 := Tryd.underlying52
 have hu43 := Tryd.underlying43
 have hu87 := Tryd.underlying87
 have HR0_0 := aS hr0_0
 have HC0_0 := aS hc0_0
 clear hr0_0 hc0_0
 have HB := aS (Below.refl w.heap.size w)
 have H := h; clear h; unfold clerestoryref1_SpanCut.f at H
 replace H := iB H
 obtain ⟨t433, A3, H⟩ := H
 have H' := aS H
 clear H
 go_enter Tryd.func34, Tryd.ntmps34
 go_wp2_with (first | ((with_reducible refine q07 (N := 2) rfl ?_); refine box0 rfl (N := 2) rfl (cs := #[.slice A0_0 l0_0.length c0_0, .bool a0_1]) (t := 24) zh (z7 HB.out) ?_; clear HB; intro gb431 w4 BK431 GW431 HB; have GE431 := GW431) | ((with_reducible refine q07 (N := 3) rfl ?_); refine q0j ?hg (N := 3) ?hd (cs := #[.int .i64 a1_0, .int .i64 a1_1, .int .i64 a1_2, .int .i64 a1_3]) (t := 52) ?hr ?_; (case hd => rfl); (case hg => rfl); (case hr => first | (go_simp; done) | (go_simp; rfl)); intro gb432 hg w5 hbox hb; have n0_ := aS (q01 (g := gb431) (o := .cells #[.slice A0_0 l0_0.length c0_0, .bool a0_1] 24 (0, 0)) (za BK431.out) hb); have n1_ := aS (q02 (z6 HB.out GE431.out) hb); have n2_ := aS (hbox); have n3_ := aS ((by rw [hg]; exact (q06 (z6 HB.out GE431.out)) : w.heap.size ≤ gb432)); have n4_ := aS ((by rw [hg]; exact (q06 (z6 HB.out GE431.out)) : w.heap.size ≤ gb432)); have n5_ := aS ((by rw [hg]; exact Nat.ne_of_lt (q0i (g := gb431) (o := .cells #[.slice A0_0 l0_0.length c0_0, .bool a0_1] 24 (0, 0)) (za BK431.out)) : gb431 ≠ gb432)); have n6_ := aS ((by rw [hg]; exact Nat.ne_of_gt (q0i (g := gb431) (o := .cells #[.slice A0_0 l0_0.length c0_0, .bool a0_1] 24 (0, 0)) (za BK431.out)) : gb432 ≠ gb431)); clear BK431; clear HB; have BK431 := n0_; have HB := n1_; have BK432 := n2_; have GW432 := n3_; have GE432 := n4_; have NB431_432 := n5_; have NB432_431 := n6_; clear n0_ n1_ n2_ n3_ n4_ n5_ n6_; clear hb hbox hg; have hnb6 := NB431_432.out; have hnc6 := NB432_431.out; obtain ⟨hcz7_0, hcz7_1, hfz7_0, hfz7_1⟩ := bk2 BK431.out) | ((with_reducible refine q08 (f := 25) rfl ?_); refine q0n (some 14) rfl rfl Tryd.func25 (by kernel_rfl) rfl #[.agg #[.slice A0_0 l0_0.length c0_0, .bool a0_1], .int .i64 0] rfl zc ?_; (with_reducible refine (clerestoryref1_Below.calls k _ _ l0_0 a0_1 0 t433 _ ?side1 ?side2 A3.out).mono ?_); (case side1 => repeat (first | exact (Kd.C_below HR0_0.out HB.out) | (with_reducible refine cA ?_ _) | (with_reducible refine cN ?_ _) | (with_reducible refine cD ?_))); (case side2 => exact HC0_0.out); rintro e w8 ⟨v434, rfl, ho0, hb⟩; refine ⟨_, rfl, ?_⟩; have HO435 := aS (Kd.R_lower ho0 (q06 (by repeat (first | (with_reducible first | exact HB.out | apply bA | apply bN | apply bD | refine bS ?_ GE431.out | refine bS ?_ GE432.out) | exact HB.out)))); replace BK431 := aS (q01 (g := gb431) (o := .cells #[.slice A0_0 l0_0.length c0_0, .bool a0_1] 24 (0, 0)) (za BK431.out) hb); replace BK432 := aS (q01 (g := gb432) (o := .cells #[.int .i64 a1_0, .int .i64 a1_1, .int .i64 a1_2, .int .i64 a1_3] 52 (0, 0)) (za BK432.out) hb); replace HB := aS (q02 (by repeat (first | (with_reducible first | exact HB.out | apply bA | apply bN | apply bD | refine bS ?_ GE431.out | refine bS ?_ GE432.out) | exact HB.out)) hb); (try clear hb); (try clear hb2); (try clear hk); (try clear hi); (try clear ho0)))
 go_loopg [5, 7] k (fun kq v5 v7 w' => ∃ (x5_1 : List (S87)) (x7_1 : Int), v7 = .int .i64 x7_1 ∧ Aside0 (clerestoryref1_SpanCut.l0 kq x5_1 t433 x7_1 l0_0 a0_1 a1_0 a1_1 a1_2 a1_3 = some r) ∧ Aside0 (kq ≤ k) ∧ Aside0 (Kd.S k87 87 w' w.heap.size (fun k_ => some k_ ≠ (v434 : Value).ownBlock) v5 x5_1) ∧ Aside0 (Kd.R (Kd.int .i64) 3 w' w.heap.size (fun _ => True) v434 t433) ∧ Aside0 (w'.heap[gb431]? = some (.cells #[(.slice A0_0 l0_0.length c0_0), .bool a0_1] 24 (0, 0))) ∧ Aside0 (w'.heap[gb432]? = some (.cells #[.int .i64 a1_0, .int .i64 a1_1, .int .i64 a1_2, .int .i64 a1_3] 52 (0, 0))) ∧ Aside0 (Below w.heap.size w w'))
 case atStart => exact ⟨(([] : List (S87))), (0), zi, H', ⟨Nat.le_refl _⟩, ⟨by first | exact Kd.S_nil _ _ _ _ _ | exact Kd.N_nil _ _ _ _ _ | exact Kd.V_nil _ _ _ _ _ | exact Kd.Q_nil _ _ _ _ _ | exact Kd.R_nil _ _ _ _ _⟩, ⟨by (with_reducible repeat (first | apply rA | apply rN | apply rD)); exact HO435.out⟩, ⟨by (with_reducible repeat (first | refine kN ?_ _ | refine kD ?_ | refine kA ?_ _)); exact BK431.out⟩, ⟨by (with_reducible repeat (first | refine kN ?_ _ | refine kD ?_ | refine kA ?_ _)); exact BK432.out⟩, ⟨by repeat (first | (with_reducible first | exact HB.out | apply bA | apply bN | apply bD | refine bS ?_ GE431.out | refine bS ?_ GE432.out) | exact HB.out)⟩⟩
 case round =>
  clear H'
  obtain ⟨x5_1, x7_1, rfl, HA, HK1, HO_5, HO_6, BK431, BK432, HB⟩ := hrel
  cases gk with
  | zero => exact absurd HA.out (by simp [clerestoryref1_SpanCut.l0])
  | succ k1 =>
   have H := HA.out
   clear HA
   simp only [clerestoryref1_SpanCut.l0] at H
   refine iT H ?p9 ?n9 <;> clear H
   case' p9 => intro c9b0 H; refine iLp H ?_; clear H; intro c10b0 H; refine iLp H ?_; clear H; intro c11b0 H; refine iTp H ?_; clear H; intro c12b0 H; replace H := iB H; obtain ⟨t439, A13, H⟩ := H; refine iV H ?p14 ?n14 <;> clear H
   case' p14 => intro c14 H; subst c14; replace H := iB H; obtain ⟨t440, A15, H⟩ := H; refine iV H ?p16 ?n16 <;> clear H
   case' p16 => intro c16 H; subst c16
   case' n16 => intro c16 H; subst c16; refine iGp H ?_; clear H; intro c31 H
   case' n14 => intro c14 H; subst c14
   case' n9 => intro c9b0 H
   case p16 =>
    have H' := aS H
    clear H
    obtain ⟨Ao17, co17, eo17⟩ := Kd.R_slice HO_6.out
    subst eo17
    obtain ⟨ad436, e436, hx436_0, p436, q436⟩ := atIA (Kd.R_reads' HO_6.out).2.2 x7_1 zb zb
    cases e436
    have hnb18 := NB431_432.out
    have hnc18 := NB432_431.out
    obtain ⟨hczL_0, hczL_1, hfzL_0, hfzL_1⟩ := bk2 BK431.out
    obtain ⟨ad437, A437_2, c437_2, A437_5, c437_5, e437, hx437_0, hx437_1, hx437_2, hx437_3, hx437_4, hx437_5, HC437_2, HR437_2, HC437_5, HR437_5, p437, q437⟩ := q0o HB.out HR0_0.out (rd t433 x7_1) zb zb
    cases e437
    go_wp2_with (first | ((with_reducible refine q07 (N := 9) rfl ?_); refine q0j ?hg (N := 9) ?hd (cs := #[.int .i64 0, .string (⟨#[]⟩ : ByteArray), .slice none 0 0, .string (⟨#[]⟩ : ByteArray), .int .i64 0, .slice none 0 0]) (t := 43) ?hr ?_; (case hd => rfl); (case hg => rfl); (case hr => first | (go_simp; done) | (go_simp; rfl)); intro gb438 hg w20 hbox hb; have n0_ := aS (Kd.S_below (zg HO_5.out) hb); have n1_ := aS (Kd.R_below (zf HO_6.out) hb); have n2_ := aS (q01 (g := gb431) (o := .cells #[.slice (some ad437) l0_0.length c0_0, .bool a0_1] 24 (0, 0)) (za BK431.out) hb); have n3_ := aS (q01 (g := gb432) (o := .cells #[.int .i64 a1_0, .int .i64 a1_1, .int .i64 a1_2, .int .i64 a1_3] 52 (0, 0)) (za BK432.out) hb); have n4_ := aS (q02 (by repeat (first | (with_reducible first | exact HB.out | apply bA | apply bN | apply bD | refine bS ?_ GE431.out | refine bS ?_ GE432.out) | exact HB.out)) hb); have n5_ := aS (hbox); have n6_ := aS ((by rw [hg]; exact (q06 (by repeat (first | (with_reducible first | exact HB.out | apply bA | apply bN | apply bD | refine bS ?_ GE431.out | refine bS ?_ GE432.out) | exact HB.out))) : w.heap.size ≤ gb438)); have n7_ := aS ((by rw [hg]; exact (q06 (by repeat (first | (with_reducible first | exact HB.out | apply bA | apply bN | apply bD | refine bS ?_ GE431.out | refine bS ?_ GE432.out) | exact HB.out))) : w.heap.size ≤ gb438)); have n8_ := aS ((by rw [hg]; exact Nat.ne_of_lt (q0i (g := gb431) (o := .cells #[.slice (some ad437) l0_0.length c0_0, .bool a0_1] 24 (0, 0)) (za BK431.out)) : gb431 ≠ gb438)); have n9_ := aS ((by rw [hg]; exact Nat.ne_of_gt (q0i (g := gb431) (o := .cells #[.slice (some ad437) l0_0.length c0_0, .bool a0_1] 24 (0, 0)) (za BK431.out)) : gb438 ≠ gb431)); have n10_ := aS ((by rw [hg]; exact Nat.ne_of_lt (q0i (g := gb432) (o := .cells #[.int .i64 a1_0, .int .i64 a1_1, .int .i64 a1_2, .int .i64 a1_3] 52 (0, 0)) (za BK432.out)) : gb432 ≠ gb438)); have n11_ := aS ((by rw [hg]; exact Nat.ne_of_gt (q0i (g := gb432) (o := .cells #[.int .i64 a1_0, .int .i64 a1_1, .int .i64 a1_2, .int .i64 a1_3] 52 (0, 0)) (za BK432.out)) : gb438 ≠ gb432)); clear HO_5; clear HO_6; clear BK431; clear BK432; clear HB; have HO_5 := n0_; have HO_6 := n1_; have BK431 := n2_; have BK432 := n3_; have HB := n4_; have BK438 := n5_; have GW438 := n6_; have GE438 := n7_; have NB431_438 := n8_; have NB438_431 := n9_; have NB432_438 := n10_; have NB438_432 := n11_; clear n0_ n1_ n2_ n3_ n4_ n5_ n6_ n7_ n8_ n9_ n10_ n11_; clear hb hbox hg; have hnb21 := NB438_431.out; have hnc21 := NB431_438.out; have hnb22 := NB438_432.out; have hnc22 := NB432_438.out; obtain ⟨hczL_0, hczL_1, hczL_2, hczL_3, hczL_4, hczL_5, hfzL_0, hfzL_1, hfzL_2, hfzL_3, hfzL_4, hfzL_5⟩ := bk6 BK438.out; obtain ⟨hczL_0, hczL_1, hfzL_0, hfzL_1⟩ := bk2 BK431.out; obtain ⟨hczL_0, hczL_1, hczL_2, hczL_3, hfzL_0, hfzL_1, hfzL_2, hfzL_3⟩ := bk4 BK432.out) | ((with_reducible refine q08 (f := 85) rfl ?_); refine q0n (some 33) rfl rfl Tryd.func85 (by kernel_rfl) rfl #[.agg #[.slice (some ad437) l0_0.length c0_0, .bool a0_1], .int .i64 (rd t433 x7_1), .agg #[.int .i64 a1_0, .int .i64 a1_1, .int .i64 a1_2, .int .i64 a1_3]] rfl zc ?_; (with_reducible refine (clerestoryref1_liesIn.calls k1 _ _ l0_0 a0_1 (rd t433 x7_1) a1_0 a1_1 a1_2 a1_3 true _ ?side1 ?side2 A13.out).mono ?_); (case side1 => exact Kd.C_below HR0_0.out (by repeat (first | (with_reducible first | exact HB.out | apply bA | apply bN | apply bD | refine bS ?_ GE431.out | refine bS ?_ GE432.out | refine bS ?_ GE438.out) | exact HB.out))); (case side2 => exact HC0_0.out); rintro e w26 ⟨rfl, hb⟩; refine ⟨_, rfl, ?_⟩; replace HO_5 := aS (Kd.S_below (by (with_reducible repeat (first | apply sA | apply sN | apply sD)); exact (Kd.S_mono (Kd.S_far (p := ⟨gb438, 5, none⟩) (Kd.S_far (p := ⟨gb438, 4, none⟩) (Kd.S_far (p := ⟨gb438, 3, none⟩) (Kd.S_far (p := ⟨gb438, 2, none⟩) (Kd.S_far (p := ⟨gb438, 1, none⟩) (Kd.S_far (p := ⟨gb438, 0, none⟩) (Kd.S_types HO_5.out BK438.out (by decide)) (fun _ hk => hk.2) (.int .i64 ((q00 l0_0 (rd t433 x7_1)).f0))) (fun _ hk => hk.2) (.string ((q00 l0_0 (rd t433 x7_1)).f1))) (fun _ hk => hk.2) (.slice A437_2 ((q00 l0_0 (rd t433 x7_1)).f2).length c437_2)) (fun _ hk => hk.2) (.string ((q00 l0_0 (rd t433 x7_1)).f3))) (fun _ hk => hk.2) (.int .i64 ((q00 l0_0 (rd t433 x7_1)).f4))) (fun _ hk => hk.2) (.slice A437_5 ((q00 l0_0 (rd t433 x7_1)).f5).length c437_5)) (fun _ h_ => h_.1))) hb); replace HO_6 := aS (Kd.R_below (by (with_reducible repeat (first | apply rA | apply rN | apply rD)); exact (Kd.R_mono (Kd.R_far (p := ⟨gb438, 5, none⟩) (Kd.R_far (p := ⟨gb438, 4, none⟩) (Kd.R_far (p := ⟨gb438, 3, none⟩) (Kd.R_far (p := ⟨gb438, 2, none⟩) (Kd.R_far (p := ⟨gb438, 1, none⟩) (Kd.R_far (p := ⟨gb438, 0, none⟩) (Kd.R_types HO_6.out BK438.out (by decide)) (fun _ hk => hk.2) (.int .i64 ((q00 l0_0 (rd t433 x7_1)).f0))) (fun _ hk => hk.2) (.string ((q00 l0_0 (rd t433 x7_1)).f1))) (fun _ hk => hk.2) (.slice A437_2 ((q00 l0_0 (rd t433 x7_1)).f2).length c437_2)) (fun _ hk => hk.2) (.string ((q00 l0_0 (rd t433 x7_1)).f3))) (fun _ hk => hk.2) (.int .i64 ((q00 l0_0 (rd t433 x7_1)).f4))) (fun _ hk => hk.2) (.slice A437_5 ((q00 l0_0 (rd t433 x7_1)).f5).length c437_5)) (fun _ h_ => h_.1))) hb); replace BK431 := aS (q01 (g := gb431) (o := .cells #[.slice (some ad437) l0_0.length c0_0, .bool a0_1] 24 (0, 0)) (by (with_reducible repeat (first | refine kN ?_ _ | refine kD ?_ | refine kA ?_ _)); refine q0d ?_ NB431_438.out _; (with_reducible repeat (first | refine kN ?_ _ | refine kD ?_ | refine kA ?_ _)); refine q0d ?_ NB431_438.out _; (with_reducible repeat (first | refine kN ?_ _ | refine kD ?_ | refine kA ?_ _)); refine q0d ?_ NB431_438.out _; (with_reducible repeat (first | refine kN ?_ _ | refine kD ?_ | refine kA ?_ _)); refine q0d ?_ NB431_438.out _; (with_reducible repeat (first | refine kN ?_ _ | refine kD ?_ | refine kA ?_ _)); refine q0d ?_ NB431_438.out _; (with_reducible repeat (first | refine kN ?_ _ | refine kD ?_ | refine kA ?_ _)); refine q0d ?_ NB431_438.out _; (with_reducible repeat (first | refine kN ?_ _ | refine kD ?_ | refine kA ?_ _)); exact BK431.out) hb); replace BK432 := aS (q01 (g := gb432) (o := .cells #[.int .i64 a1_0, .int .i64 a1_1, .int .i64 a1_2, .int .i64 a1_3] 52 (0, 0)) (by (with_reducible repeat (first | refine kN ?_ _ | refine kD ?_ | refine kA ?_ _)); refine q0d ?_ NB432_438.out _; (with_reducible repeat (first | refine kN ?_ _ | refine kD ?_ | refine kA ?_ _)); refine q0d ?_ NB432_438.out _; (with_reducible repeat (first | refine kN ?_ _ | refine kD ?_ | refine kA ?_ _)); refine q0d ?_ NB432_438.out _; (with_reducible repeat (first | refine kN ?_ _ | refine kD ?_ | refine kA ?_ _)); refine q0d ?_ NB432_438.out _; (with_reducible repeat (first | refine kN ?_ _ | refine kD ?_ | refine kA ?_ _)); refine q0d ?_ NB432_438.out _; (with_reducible repeat (first | refine kN ?_ _ | refine kD ?_ | refine kA ?_ _)); refine q0d ?_ NB432_438.out _; (with_reducible repeat (first | refine kN ?_ _ | refine kD ?_ | refine kA ?_ _)); exact BK432.out) hb); replace BK438 := aS (q01 (g := gb438) (o := .cells #[.int .i64 ((q00 l0_0 (rd t433 x7_1)).f0), .string ((q00 l0_0 (rd t433 x7_1)).f1), .slice A437_2 ((q00 l0_0 (rd t433 x7_1)).f2).length c437_2, .string ((q00 l0_0 (rd t433 x7_1)).f3), .int .i64 ((q00 l0_0 (rd t433 x7_1)).f4), .slice A437_5 ((q00 l0_0 (rd t433 x7_1)).f5).length c437_5] 43 (0, 0)) (by (with_reducible repeat (first | refine kN ?_ _ | refine kD ?_ | refine kA ?_ _)); refine q0h (cs := #[.int .i64 ((q00 l0_0 (rd t433 x7_1)).f0), .string ((q00 l0_0 (rd t433 x7_1)).f1), .slice A437_2 ((q00 l0_0 (rd t433 x7_1)).f2).length c437_2, .string ((q00 l0_0 (rd t433 x7_1)).f3), .int .i64 ((q00 l0_0 (rd t433 x7_1)).f4), .slice none 0 0]) ?_ 5 _ rfl; (with_reducible repeat (first | refine kN ?_ _ | refine kD ?_ | refine kA ?_ _)); refine q0h (cs := #[.int .i64 ((q00 l0_0 (rd t433 x7_1)).f0), .string ((q00 l0_0 (rd t433 x7_1)).f1), .slice A437_2 ((q00 l0_0 (rd t433 x7_1)).f2).length c437_2, .string ((q00 l0_0 (rd t433 x7_1)).f3), .int .i64 0, .slice none 0 0]) ?_ 4 _ rfl; (with_reducible repeat (first | refine kN ?_ _ | refine kD ?_ | refine kA ?_ _)); refine q0h (cs := #[.int .i64 ((q00 l0_0 (rd t433 x7_1)).f0), .string ((q00 l0_0 (rd t433 x7_1)).f1), .slice A437_2 ((q00 l0_0 (rd t433 x7_1)).f2).length c437_2, .string (⟨#[]⟩ : ByteArray), .int .i64 0, .slice none 0 0]) ?_ 3 _ rfl; (with_reducible repeat (first | refine kN ?_ _ | refine kD ?_ | refine kA ?_ _)); refine q0h (cs := #[.int .i64 ((q00 l0_0 (rd t433 x7_1)).f0), .string ((q00 l0_0 (rd t433 x7_1)).f1), .slice none 0 0, .string (⟨#[]⟩ : ByteArray), .int .i64 0, .slice none 0 0]) ?_ 2 _ rfl; (with_reducible repeat (first | refine kN ?_ _ | refine kD ?_ | refine kA ?_ _)); refine q0h (cs := #[.int .i64 ((q00 l0_0 (rd t433 x7_1)).f0), .string (⟨#[]⟩ : ByteArray), .slice none 0 0, .string (⟨#[]⟩ : ByteArray), .int .i64 0, .slice none 0 0]) ?_ 1 _ rfl; (with_reducible repeat (first | refine kN ?_ _ | refine kD ?_ | refine kA ?_ _)); refine q0h (cs := #[.int .i64 0, .string (⟨#[]⟩ : ByteArray), .slice none 0 0, .string (⟨#[]⟩ : ByteArray), .int .i64 0, .slice none 0 0]) ?_ 0 _ rfl; (with_reducible repeat (first | refine kN ?_ _ | refine kD ?_ | refine kA ?_ _)); exact BK438.out) hb); replace HB := aS (q02 (by repeat (first | (with_reducible first | exact HB.out | apply bA | apply bN | apply bD | refine bS ?_ GE431.out | refine bS ?_ GE432.out | refine bS ?_ GE438.out) | exact HB.out)) hb); (try clear hb); (try clear hb2); (try clear hk); (try clear hi); obtain ⟨hczL_0, hczL_1, hfzL_0, hfzL_1⟩ := bk2 BK431.out; obtain ⟨hczL_0, hczL_1, hczL_2, hczL_3, hczL_4, hczL_5, hfzL_0, hfzL_1, hfzL_2, hfzL_3, hfzL_4, hfzL_5⟩ := bk6 BK438.out; obtain ⟨hczL_0, hczL_1, hczL_2, hczL_3, hfzL_0, hfzL_1, hfzL_2, hfzL_3⟩ := bk4 BK432.out) | ((with_reducible refine q08 (f := 85) rfl ?_); refine q0n (some 38) rfl rfl Tryd.func85 (by kernel_rfl) rfl #[.agg #[.slice (some ad437) l0_0.length c0_0, .bool a0_1], .int .i64 ((q00 l0_0 (rd t433 x7_1)).f4), .agg #[.int .i64 a1_0, .int .i64 a1_1, .int .i64 a1_2, .int .i64 a1_3]] rfl zc ?_; (with_reducible refine (clerestoryref1_liesIn.calls k1 _ _ l0_0 a0_1 ((q00 l0_0 (rd t433 x7_1)).f4) a1_0 a1_1 a1_2 a1_3 true _ ?side1 ?side2 A15.out).mono ?_); (case side1 => repeat (first | exact (Kd.C_below HR0_0.out HB.out) | (with_reducible refine cA ?_ _) | (with_reducible refine cN ?_ _) | (with_reducible refine cD ?_))); (case side2 => exact HC0_0.out); rintro e w30 ⟨rfl, hb⟩; refine ⟨_, rfl, ?_⟩; replace HO_5 := aS (Kd.S_below (zg HO_5.out) hb); replace HO_6 := aS (Kd.R_below (zf HO_6.out) hb); replace BK431 := aS (q01 (g := gb431) (o := .cells #[.slice (some ad437) l0_0.length c0_0, .bool a0_1] 24 (0, 0)) (za BK431.out) hb); replace BK432 := aS (q01 (g := gb432) (o := .cells #[.int .i64 a1_0, .int .i64 a1_1, .int .i64 a1_2, .int .i64 a1_3] 52 (0, 0)) (za BK432.out) hb); replace BK438 := aS (q01 (g := gb438) (o := .cells #[.int .i64 ((q00 l0_0 (rd t433 x7_1)).f0), .string ((q00 l0_0 (rd t433 x7_1)).f1), .slice A437_2 ((q00 l0_0 (rd t433 x7_1)).f2).length c437_2, .string ((q00 l0_0 (rd t433 x7_1)).f3), .int .i64 ((q00 l0_0 (rd t433 x7_1)).f4), .slice A437_5 ((q00 l0_0 (rd t433 x7_1)).f5).length c437_5] 43 (0, 0)) (za BK438.out) hb); replace HB := aS (q02 (by repeat (first | (with_reducible first | exact HB.out | apply bA | apply bN | apply bD | refine bS ?_ GE431.out | refine bS ?_ GE432.out | refine bS ?_ GE438.out) | exact HB.out)) hb); (try clear hb); (try clear hb2); (try clear hk); (try clear hi)))
    go_roundg k1
    case measure => have := HK1.out; omega
    case rel => exact ⟨(x5_1), (wrap64 (x7_1 + 1)), zi, H', ⟨by have := HK1.out; omega⟩, ⟨by (with_reducible repeat (first | apply sA | apply sN | apply sD)); exact HO_5.out⟩, ⟨by (with_reducible repeat (first | apply rA | apply rN | apply rD)); exact HO_6.out⟩, ⟨by (with_reducible repeat (first | refine kN ?_ _ | refine kD ?_ | refine kA ?_ _)); exact BK431.out⟩, ⟨by (with_reducible repeat (first | refine kN ?_ _ | refine kD ?_ | refine kA ?_ _)); exact BK432.out⟩, ⟨by repeat (first | (with_reducible first | exact HB.out | apply bA | apply bN | apply bD | refine bS ?_ GE431.out | refine bS ?_ GE432.out | refine bS ?_ GE438.out) | exact HB.out)⟩⟩
   case n16 =>
    have LMc31 := aS c31
    clear c31
    obtain ⟨y441, hy441⟩ : ∃ y_ : List (S87), y_ = (x5_1 ++ [(⟨6, rd t433 x7_1, 0, 0, (⟨#[]⟩ : ByteArray), (⟨#[]⟩ : ByteArray), (⟨0, (⟨#[]⟩ : ByteArray), ([] : List (S122)), (⟨#[]⟩ : ByteArray), 0, ([] : List Int)⟩ : S43)⟩ : S87)]) := ⟨_, rfl⟩
    replace H : (clerestoryref1_SpanCut.l0 k1 y441 t433 (wrap64 (x7_1 + 1)) l0_0 a0_1 a1_0 a1_1 a1_2 a1_3) = some r := by first | (rw [hy441]; with_reducible exact H) | (have H2_ := (Option.bind_some _ _).symm.trans H; rw [hy441]; with_reducible exact H2_) | (have H2_ := (Option.bind_some _ _).symm.trans H; with_reducible exact H2_) | with_reducible exact H | (rw [hy441]; exact H) | exact H
    have Ny441 := aS hy441
    clear hy441
    have H' := aS H
    clear H
    obtain ⟨Ao32, co32, eo32⟩ := Kd.R_slice HO_6.out
    subst eo32
    obtain ⟨ad436, e436, hx436_0, p436, q436⟩ := atIA (Kd.R_reads' HO_6.out).2.2 x7_1 zb zb
    cases e436
    have hnb33 := NB431_432.out
    have hnc33 := NB432_431.out
    obtain ⟨hczL_0, hczL_1, hfzL_0, hfzL_1⟩ := bk2 BK431.out
    obtain ⟨ad437, A437_2, c437_2, A437_5, c437_5, e437, hx437_0, hx437_1, hx437_2, hx437_3, hx437_4, hx437_5, HC437_2, HR437_2, HC437_5, HR437_5, p437, q437⟩ := q0o HB.out HR0_0.out (rd t433 x7_1) zb zb
    cases e437
    go_wp2_with (first | ((with_reducible refine q07 (N := 9) rfl ?_); refine q0j ?hg (N := 9) ?hd (cs := #[.int .i64 0, .string (⟨#[]⟩ : ByteArray), .slice none 0 0, .string (⟨#[]⟩ : ByteArray), .int .i64 0, .slice none 0 0]) (t := 43) ?hr ?_; (case hd => rfl); (case hg => rfl); (case hr => first | (go_simp; done) | (go_simp; rfl)); intro gb438 hg w35 hbox hb; have n0_ := aS (Kd.S_below (zg HO_5.out) hb); have n1_ := aS (Kd.R_below (zf HO_6.out) hb); have n2_ := aS (q01 (g := gb431) (o := .cells #[.slice (some ad437) l0_0.length c0_0, .bool a0_1] 24 (0, 0)) (za BK431.out) hb); have n3_ := aS (q01 (g := gb432) (o := .cells #[.int .i64 a1_0, .int .i64 a1_1, .int .i64 a1_2, .int .i64 a1_3] 52 (0, 0)) (za BK432.out) hb); have n4_ := aS (q02 (by repeat (first | (with_reducible first | exact HB.out | apply bA | apply bN | apply bD | refine bS ?_ GE431.out | refine bS ?_ GE432.out) | exact HB.out)) hb); have n5_ := aS (hbox); have n6_ := aS ((by rw [hg]; exact (q06 (by repeat (first | (with_reducible first | exact HB.out | apply bA | apply bN | apply bD | refine bS ?_ GE431.out | refine bS ?_ GE432.out) | exact HB.out))) : w.heap.size ≤ gb438)); have n7_ := aS ((by rw [hg]; exact (q06 (by repeat (first | (with_reducible first | exact HB.out | apply bA | apply bN | apply bD | refine bS ?_ GE431.out | refine bS ?_ GE432.out) | exact HB.out))) : w.heap.size ≤ gb438)); have n8_ := aS ((by rw [hg]; exact Nat.ne_of_lt (q0i (g := gb431) (o := .cells #[.slice (some ad437) l0_0.length c0_0, .bool a0_1] 24 (0, 0)) (za BK431.out)) : gb431 ≠ gb438)); have n9_ := aS ((by rw [hg]; exact Nat.ne_of_gt (q0i (g := gb431) (o := .cells #[.slice (some ad437) l0_0.length c0_0, .bool a0_1] 24 (0, 0)) (za BK431.out)) : gb438 ≠ gb431)); have n10_ := aS ((by rw [hg]; exact Nat.ne_of_lt (q0i (g := gb432) (o := .cells #[.int .i64 a1_0, .int .i64 a1_1, .int .i64 a1_2, .int .i64 a1_3] 52 (0, 0)) (za BK432.out)) : gb432 ≠ gb438)); have n11_ := aS ((by rw [hg]; exact Nat.ne_of_gt (q0i (g := gb432) (o := .cells #[.int .i64 a1_0, .int .i64 a1_1, .int .i64 a1_2, .int .i64 a1_3] 52 (0, 0)) (za BK432.out)) : gb438 ≠ gb432)); clear HO_5; clear HO_6; clear BK431; clear BK432; clear HB; have HO_5 := n0_; have HO_6 := n1_; have BK431 := n2_; have BK432 := n3_; have HB := n4_; have BK438 := n5_; have GW438 := n6_; have GE438 := n7_; have NB431_438 := n8_; have NB438_431 := n9_; have NB432_438 := n10_; have NB438_432 := n11_; clear n0_ n1_ n2_ n3_ n4_ n5_ n6_ n7_ n8_ n9_ n10_ n11_; clear hb hbox hg; have hnb36 := NB438_431.out; have hnc36 := NB431_438.out; have hnb37 := NB438_432.out; have hnc37 := NB432_438.out; obtain ⟨hczL_0, hczL_1, hczL_2, hczL_3, hczL_4, hczL_5, hfzL_0, hfzL_1, hfzL_2, hfzL_3, hfzL_4, hfzL_5⟩ := bk6 BK438.out; obtain ⟨hczL_0, hczL_1, hfzL_0, hfzL_1⟩ := bk2 BK431.out; obtain ⟨hczL_0, hczL_1, hczL_2, hczL_3, hfzL_0, hfzL_1, hfzL_2, hfzL_3⟩ := bk4 BK432.out) | ((with_reducible refine q08 (f := 85) rfl ?_); refine q0n (some 33) rfl rfl Tryd.func85 (by kernel_rfl) rfl #[.agg #[.slice (some ad437) l0_0.length c0_0, .bool a0_1], .int .i64 (rd t433 x7_1), .agg #[.int .i64 a1_0, .int .i64 a1_1, .int .i64 a1_2, .int .i64 a1_3]] rfl zc ?_; (with_reducible refine (clerestoryref1_liesIn.calls k1 _ _ l0_0 a0_1 (rd t433 x7_1) a1_0 a1_1 a1_2 a1_3 true _ ?side1 ?side2 A13.out).mono ?_); (case side1 => exact Kd.C_below HR0_0.out (by repeat (first | (with_reducible first | exact HB.out | apply bA | apply bN | apply bD | refine bS ?_ GE431.out | refine bS ?_ GE432.out | refine bS ?_ GE438.out) | exact HB.out))); (case side2 => exact HC0_0.out); rintro e w41 ⟨rfl, hb⟩; refine ⟨_, rfl, ?_⟩; replace HO_5 := aS (Kd.S_below (by (with_reducible repeat (first | apply sA | apply sN | apply sD)); exact (Kd.S_mono (Kd.S_far (p := ⟨gb438, 5, none⟩) (Kd.S_far (p := ⟨gb438, 4, none⟩) (Kd.S_far (p := ⟨gb438, 3, none⟩) (Kd.S_far (p := ⟨gb438, 2, none⟩) (Kd.S_far (p := ⟨gb438, 1, none⟩) (Kd.S_far (p := ⟨gb438, 0, none⟩) (Kd.S_types HO_5.out BK438.out (by decide)) (fun _ hk => hk.2) (.int .i64 ((q00 l0_0 (rd t433 x7_1)).f0))) (fun _ hk => hk.2) (.string ((q00 l0_0 (rd t433 x7_1)).f1))) (fun _ hk => hk.2) (.slice A437_2 ((q00 l0_0 (rd t433 x7_1)).f2).length c437_2)) (fun _ hk => hk.2) (.string ((q00 l0_0 (rd t433 x7_1)).f3))) (fun _ hk => hk.2) (.int .i64 ((q00 l0_0 (rd t433 x7_1)).f4))) (fun _ hk => hk.2) (.slice A437_5 ((q00 l0_0 (rd t433 x7_1)).f5).length c437_5)) (fun _ h_ => h_.1))) hb); replace HO_6 := aS (Kd.R_below (by (with_reducible repeat (first | apply rA | apply rN | apply rD)); exact (Kd.R_mono (Kd.R_far (p := ⟨gb438, 5, none⟩) (Kd.R_far (p := ⟨gb438, 4, none⟩) (Kd.R_far (p := ⟨gb438, 3, none⟩) (Kd.R_far (p := ⟨gb438, 2, none⟩) (Kd.R_far (p := ⟨gb438, 1, none⟩) (Kd.R_far (p := ⟨gb438, 0, none⟩) (Kd.R_types HO_6.out BK438.out (by decide)) (fun _ hk => hk.2) (.int .i64 ((q00 l0_0 (rd t433 x7_1)).f0))) (fun _ hk => hk.2) (.string ((q00 l0_0 (rd t433 x7_1)).f1))) (fun _ hk => hk.2) (.slice A437_2 ((q00 l0_0 (rd t433 x7_1)).f2).length c437_2)) (fun _ hk => hk.2) (.string ((q00 l0_0 (rd t433 x7_1)).f3))) (fun _ hk => hk.2) (.int .i64 ((q00 l0_0 (rd t433 x7_1)).f4))) (fun _ hk => hk.2) (.slice A437_5 ((q00 l0_0 (rd t433 x7_1)).f5).length c437_5)) (fun _ h_ => h_.1))) hb); replace BK431 := aS (q01 (g := gb431) (o := .cells #[.slice (some ad437) l0_0.length c0_0, .bool a0_1] 24 (0, 0)) (by (with_reducible repeat (first | refine kN ?_ _ | refine kD ?_ | refine kA ?_ _)); refine q0d ?_ NB431_438.out _; (with_reducible repeat (first | refine kN ?_ _ | refine kD ?_ | refine kA ?_ _)); refine q0d ?_ NB431_438.out _; (with_reducible repeat (first | refine kN ?_ _ | refine kD ?_ | refine kA ?_ _)); refine q0d ?_ NB431_438.out _; (with_reducible repeat (first | refine kN ?_ _ | refine kD ?_ | refine kA ?_ _)); refine q0d ?_ NB431_438.out _; (with_reducible repeat (first | refine kN ?_ _ | refine kD ?_ | refine kA ?_ _)); refine q0d ?_ NB431_438.out _; (with_reducible repeat (first | refine kN ?_ _ | refine kD ?_ | refine kA ?_ _)); refine q0d ?_ NB431_438.out _; (with_reducible repeat (first | refine kN ?_ _ | refine kD ?_ | refine kA ?_ _)); exact BK431.out) hb); replace BK432 := aS (q01 (g := gb432) (o := .cells #[.int .i64 a1_0, .int .i64 a1_1, .int .i64 a1_2, .int .i64 a1_3] 52 (0, 0)) (by (with_reducible repeat (first | refine kN ?_ _ | refine kD ?_ | refine kA ?_ _)); refine q0d ?_ NB432_438.out _; (with_reducible repeat (first | refine kN ?_ _ | refine kD ?_ | refine kA ?_ _)); refine q0d ?_ NB432_438.out _; (with_reducible repeat (first | refine kN ?_ _ | refine kD ?_ | refine kA ?_ _)); refine q0d ?_ NB432_438.out _; (with_reducible repeat (first | refine kN ?_ _ | refine kD ?_ | refine kA ?_ _)); refine q0d ?_ NB432_438.out _; (with_reducible repeat (first | refine kN ?_ _ | refine kD ?_ | refine kA ?_ _)); refine q0d ?_ NB432_438.out _; (with_reducible repeat (first | refine kN ?_ _ | refine kD ?_ | refine kA ?_ _)); refine q0d ?_ NB432_438.out _; (with_reducible repeat (first | refine kN ?_ _ | refine kD ?_ | refine kA ?_ _)); exact BK432.out) hb); replace BK438 := aS (q01 (g := gb438) (o := .cells #[.int .i64 ((q00 l0_0 (rd t433 x7_1)).f0), .string ((q00 l0_0 (rd t433 x7_1)).f1), .slice A437_2 ((q00 l0_0 (rd t433 x7_1)).f2).length c437_2, .string ((q00 l0_0 (rd t433 x7_1)).f3), .int .i64 ((q00 l0_0 (rd t433 x7_1)).f4), .slice A437_5 ((q00 l0_0 (rd t433 x7_1)).f5).length c437_5] 43 (0, 0)) (by (with_reducible repeat (first | refine kN ?_ _ | refine kD ?_ | refine kA ?_ _)); refine q0h (cs := #[.int .i64 ((q00 l0_0 (rd t433 x7_1)).f0), .string ((q00 l0_0 (rd t433 x7_1)).f1), .slice A437_2 ((q00 l0_0 (rd t433 x7_1)).f2).length c437_2, .string ((q00 l0_0 (rd t433 x7_1)).f3), .int .i64 ((q00 l0_0 (rd t433 x7_1)).f4), .slice none 0 0]) ?_ 5 _ rfl; (with_reducible repeat (first | refine kN ?_ _ | refine kD ?_ | refine kA ?_ _)); refine q0h (cs := #[.int .i64 ((q00 l0_0 (rd t433 x7_1)).f0), .string ((q00 l0_0 (rd t433 x7_1)).f1), .slice A437_2 ((q00 l0_0 (rd t433 x7_1)).f2).length c437_2, .string ((q00 l0_0 (rd t433 x7_1)).f3), .int .i64 0, .slice none 0 0]) ?_ 4 _ rfl; (with_reducible repeat (first | refine kN ?_ _ | refine kD ?_ | refine kA ?_ _)); refine q0h (cs := #[.int .i64 ((q00 l0_0 (rd t433 x7_1)).f0), .string ((q00 l0_0 (rd t433 x7_1)).f1), .slice A437_2 ((q00 l0_0 (rd t433 x7_1)).f2).length c437_2, .string (⟨#[]⟩ : ByteArray), .int .i64 0, .slice none 0 0]) ?_ 3 _ rfl; (with_reducible repeat (first | refine kN ?_ _ | refine kD ?_ | refine kA ?_ _)); refine q0h (cs := #[.int .i64 ((q00 l0_0 (rd t433 x7_1)).f0), .string ((q00 l0_0 (rd t433 x7_1)).f1), .slice none 0 0, .string (⟨#[]⟩ : ByteArray), .int .i64 0, .slice none 0 0]) ?_ 2 _ rfl; (with_reducible repeat (first | refine kN ?_ _ | refine kD ?_ | refine kA ?_ _)); refine q0h (cs := #[.int .i64 ((q00 l0_0 (rd t433 x7_1)).f0), .string (⟨#[]⟩ : ByteArray), .slice none 0 0, .string (⟨#[]⟩ : ByteArray), .int .i64 0, .slice none 0 0]) ?_ 1 _ rfl; (with_reducible repeat (first | refine kN ?_ _ | refine kD ?_ | refine kA ?_ _)); refine q0h (cs := #[.int .i64 0, .string (⟨#[]⟩ : ByteArray), .slice none 0 0, .string (⟨#[]⟩ : ByteArray), .int .i64 0, .slice none 0 0]) ?_ 0 _ rfl; (with_reducible repeat (first | refine kN ?_ _ | refine kD ?_ | refine kA ?_ _)); exact BK438.out) hb); replace HB := aS (q02 (by repeat (first | (with_reducible first | exact HB.out | apply bA | apply bN | apply bD | refine bS ?_ GE431.out | refine bS ?_ GE432.out | refine bS ?_ GE438.out) | exact HB.out)) hb); (try clear hb); (try clear hb2); (try clear hk); (try clear hi); obtain ⟨hczL_0, hczL_1, hfzL_0, hfzL_1⟩ := bk2 BK431.out; obtain ⟨hczL_0, hczL_1, hczL_2, hczL_3, hczL_4, hczL_5, hfzL_0, hfzL_1, hfzL_2, hfzL_3, hfzL_4, hfzL_5⟩ := bk6 BK438.out; obtain ⟨hczL_0, hczL_1, hczL_2, hczL_3, hfzL_0, hfzL_1, hfzL_2, hfzL_3⟩ := bk4 BK432.out) | ((with_reducible refine q08 (f := 85) rfl ?_); refine q0n (some 38) rfl rfl Tryd.func85 (by kernel_rfl) rfl #[.agg #[.slice (some ad437) l0_0.length c0_0, .bool a0_1], .int .i64 ((q00 l0_0 (rd t433 x7_1)).f4), .agg #[.int .i64 a1_0, .int .i64 a1_1, .int .i64 a1_2, .int .i64 a1_3]] rfl zc ?_; (with_reducible refine (clerestoryref1_liesIn.calls k1 _ _ l0_0 a0_1 ((q00 l0_0 (rd t433 x7_1)).f4) a1_0 a1_1 a1_2 a1_3 false _ ?side1 ?side2 A15.out).mono ?_); (case side1 => repeat (first | exact (Kd.C_below HR0_0.out HB.out) | (with_reducible refine cA ?_ _) | (with_reducible refine cN ?_ _) | (with_reducible refine cD ?_))); (case side2 => exact HC0_0.out); rintro e w45 ⟨rfl, hb⟩; refine ⟨_, rfl, ?_⟩; replace HO_5 := aS (Kd.S_below (zg HO_5.out) hb); replace HO_6 := aS (Kd.R_below (zf HO_6.out) hb); replace BK431 := aS (q01 (g := gb431) (o := .cells #[.slice (some ad437) l0_0.length c0_0, .bool a0_1] 24 (0, 0)) (za BK431.out) hb); replace BK432 := aS (q01 (g := gb432) (o := .cells #[.int .i64 a1_0, .int .i64 a1_1, .int .i64 a1_2, .int .i64 a1_3] 52 (0, 0)) (za BK432.out) hb); replace BK438 := aS (q01 (g := gb438) (o := .cells #[.int .i64 ((q00 l0_0 (rd t433 x7_1)).f0), .string ((q00 l0_0 (rd t433 x7_1)).f1), .slice A437_2 ((q00 l0_0 (rd t433 x7_1)).f2).length c437_2, .string ((q00 l0_0 (rd t433 x7_1)).f3), .int .i64 ((q00 l0_0 (rd t433 x7_1)).f4), .slice A437_5 ((q00 l0_0 (rd t433 x7_1)).f5).length c437_5] 43 (0, 0)) (za BK438.out) hb); replace HB := aS (q02 (by repeat (first | (with_reducible first | exact HB.out | apply bA | apply bN | apply bD | refine bS ?_ GE431.out | refine bS ?_ GE432.out | refine bS ?_ GE438.out) | exact HB.out)) hb); (try clear hb); (try clear hb2); (try clear hk); (try clear hi)) | ((with_reducible refine q17 (b := .append) (xs := #[.tmp 40, .tmp 43]) rfl ?_); at_builtin; refine Kd.S_append k87 (w0 := w) w.heap.size rfl (.tmp 40) (.tmp 43) 54 87 (.agg #[(.int .i64 0), (.int .i64 0), (.int .i64 0), (.int .i64 0), (.string ⟨#[]⟩), (.string ⟨#[]⟩), (.int .i64 0), (.string ⟨#[]⟩), (.slice none 0 0), (.string ⟨#[]⟩), (.int .i64 0), (.slice none 0 0)]) 160 rfl Tryd.underlying54 info87 rfl (by decide) (by omega) u5 x5_1 (⟨6, rd t433 x7_1, 0, 0, (⟨#[]⟩ : ByteArray), (⟨#[]⟩ : ByteArray), (⟨0, (⟨#[]⟩ : ByteArray), ([] : List (S122)), (⟨#[]⟩ : ByteArray), 0, ([] : List Int)⟩ : S43)⟩ : S87) [.int .i64 6, .int .i64 (rd t433 x7_1), .int .i64 0, .int .i64 0, .string (⟨#[]⟩ : ByteArray), .string (⟨#[]⟩ : ByteArray), .int .i64 0, .string (⟨#[]⟩ : ByteArray), .slice none 0 0, .string (⟨#[]⟩ : ByteArray), .int .i64 0, .slice none 0 0] (fun k_ => some k_ ≠ (.slice (some ad436) t433.length co32 : Value).ownBlock) (fun _ => False) rfl rfl ?aP (fun k_ hk_ => hk_.elim) ?aF ?aO ?aB ?aS ?aL ?_; (case aP => exact k87_mkM _ _ _ (⟨6, rd t433 x7_1, 0, 0, (⟨#[]⟩ : ByteArray), (⟨#[]⟩ : ByteArray), (⟨0, (⟨#[]⟩ : ByteArray), ([] : List (S122)), (⟨#[]⟩ : ByteArray), 0, ([] : List Int)⟩ : S43)⟩ : S87) (Kd.R_nil _ _ _ _ _) (Kd.R_nil _ _ _ _ _)); (case aB => exact (by repeat (first | (with_reducible first | exact HB.out | apply bA | apply bN | apply bD | refine bS ?_ GE431.out | refine bS ?_ GE432.out | refine bS ?_ GE438.out) | exact HB.out))); (case aF => exact (fun k_ hk => Kd.fresh' (Kd.R_lt (zf HO_6.out)) k_ hk)); (case aO => exact (by (with_reducible repeat (first | apply sA | apply sN | apply sD)); exact Kd.S_mono HO_5.out (fun k_ hk => ⟨hk, fun e_ => e_⟩))); (case aS => exact (q06 (by repeat (first | (with_reducible first | exact HB.out | apply bA | apply bN | apply bD | refine bS ?_ GE431.out | refine bS ?_ GE432.out | refine bS ?_ GE438.out) | exact HB.out)))); (case aL => have := LMc31.out; omega); intro v442 w46 ho hb hg hat; rw [← Ny441.out] at ho; have n0_ := aS (Kd.R_over' (zf HO_6.out) (Kd.S_typed (zg HO_5.out)) (by decide) hg); have n1_ := aS (q0q (g := gb431) (o := .cells #[.slice (some ad437) l0_0.length c0_0, .bool a0_1] 24 (0, 0)) (za BK431.out) hg (Kd.S_ne HO_5.out BK431.out (by decide))); have n2_ := aS (q0q (g := gb432) (o := .cells #[.int .i64 a1_0, .int .i64 a1_1, .int .i64 a1_2, .int .i64 a1_3] 52 (0, 0)) (za BK432.out) hg (Kd.S_ne HO_5.out BK432.out (by decide))); have n3_ := aS (q0q (g := gb438) (o := .cells #[.int .i64 ((q00 l0_0 (rd t433 x7_1)).f0), .string ((q00 l0_0 (rd t433 x7_1)).f1), .slice A437_2 ((q00 l0_0 (rd t433 x7_1)).f2).length c437_2, .string ((q00 l0_0 (rd t433 x7_1)).f3), .int .i64 ((q00 l0_0 (rd t433 x7_1)).f4), .slice A437_5 ((q00 l0_0 (rd t433 x7_1)).f5).length c437_5] 43 (0, 0)) (za BK438.out) hg (Kd.S_ne HO_5.out BK438.out (by decide))); have n4_ := aS (hb); have n5_ := aS (ho); clear HO_6; clear BK431; clear BK432; clear BK438; clear HB; clear HO_5; have HO_6 := n0_; have BK431 := n1_; have BK432 := n2_; have BK438 := n3_; have HB := n4_; have HO443 := n5_; clear n0_ n1_ n2_ n3_ n4_ n5_; clear ho hb hg hat))
    go_roundg k1
    case measure => have := HK1.out; omega
    case rel => exact ⟨(y441), (wrap64 (x7_1 + 1)), zi, H', ⟨by have := HK1.out; omega⟩, ⟨by (with_reducible repeat (first | apply sA | apply sN | apply sD)); exact HO443.out⟩, ⟨by (with_reducible repeat (first | apply rA | apply rN | apply rD)); exact HO_6.out⟩, ⟨by (with_reducible repeat (first | refine kN ?_ _ | refine kD ?_ | refine kA ?_ _)); exact BK431.out⟩, ⟨by (with_reducible repeat (first | refine kN ?_ _ | refine kD ?_ | refine kA ?_ _)); exact BK432.out⟩, ⟨by repeat (first | (with_reducible first | exact HB.out | apply bA | apply bN | apply bD | refine bS ?_ GE431.out | refine bS ?_ GE432.out | refine bS ?_ GE438.out) | exact HB.out)⟩⟩
   case n14 =>
    have HC47 := aS H
    clear H
    obtain ⟨Ao48, co48, eo48⟩ := Kd.R_slice HO_6.out
    subst eo48
    obtain ⟨ad436, e436, hx436_0, p436, q436⟩ := atIA (Kd.R_reads' HO_6.out).2.2 x7_1 zb zb
    cases e436
    have hnb49 := NB431_432.out
    have hnc49 := NB432_431.out
    obtain ⟨hczL_0, hczL_1, hfzL_0, hfzL_1⟩ := bk2 BK431.out
    obtain ⟨ad437, A437_2, c437_2, A437_5, c437_5, e437, hx437_0, hx437_1, hx437_2, hx437_3, hx437_4, hx437_5, HC437_2, HR437_2, HC437_5, HR437_5, p437, q437⟩ := q0o HB.out HR0_0.out (rd t433 x7_1) zb zb
    cases e437
    go_upto_region 11 with (first | ((with_reducible refine q07 (N := 9) rfl ?_); refine q0j ?hg (N := 9) ?hd (cs := #[.int .i64 0, .string (⟨#[]⟩ : ByteArray), .slice none 0 0, .string (⟨#[]⟩ : ByteArray), .int .i64 0, .slice none 0 0]) (t := 43) ?hr ?_; (case hd => rfl); (case hg => rfl); (case hr => first | (go_simp; done) | (go_simp; rfl)); intro gb438 hg w51 hbox hb; have n0_ := aS (Kd.S_below (zg HO_5.out) hb); have n1_ := aS (Kd.R_below (zf HO_6.out) hb); have n2_ := aS (q01 (g := gb431) (o := .cells #[.slice (some ad437) l0_0.length c0_0, .bool a0_1] 24 (0, 0)) (za BK431.out) hb); have n3_ := aS (q01 (g := gb432) (o := .cells #[.int .i64 a1_0, .int .i64 a1_1, .int .i64 a1_2, .int .i64 a1_3] 52 (0, 0)) (za BK432.out) hb); have n4_ := aS (q02 (by repeat (first | (with_reducible first | exact HB.out | apply bA | apply bN | apply bD | refine bS ?_ GE431.out | refine bS ?_ GE432.out) | exact HB.out)) hb); have n5_ := aS (hbox); have n6_ := aS ((by rw [hg]; exact (q06 (by repeat (first | (with_reducible first | exact HB.out | apply bA | apply bN | apply bD | refine bS ?_ GE431.out | refine bS ?_ GE432.out) | exact HB.out))) : w.heap.size ≤ gb438)); have n7_ := aS ((by rw [hg]; exact (q06 (by repeat (first | (with_reducible first | exact HB.out | apply bA | apply bN | apply bD | refine bS ?_ GE431.out | refine bS ?_ GE432.out) | exact HB.out))) : w.heap.size ≤ gb438)); have n8_ := aS ((by rw [hg]; exact Nat.ne_of_lt (q0i (g := gb431) (o := .cells #[.slice (some ad437) l0_0.length c0_0, .bool a0_1] 24 (0, 0)) (za BK431.out)) : gb431 ≠ gb438)); have n9_ := aS ((by rw [hg]; exact Nat.ne_of_gt (q0i (g := gb431) (o := .cells #[.slice (some ad437) l0_0.length c0_0, .bool a0_1] 24 (0, 0)) (za BK431.out)) : gb438 ≠ gb431)); have n10_ := aS ((by rw [hg]; exact Nat.ne_of_lt (q0i (g := gb432) (o := .cells #[.int .i64 a1_0, .int .i64 a1_1, .int .i64 a1_2, .int .i64 a1_3] 52 (0, 0)) (za BK432.out)) : gb432 ≠ gb438)); have n11_ := aS ((by rw [hg]; exact Nat.ne_of_gt (q0i (g := gb432) (o := .cells #[.int .i64 a1_0, .int .i64 a1_1, .int .i64 a1_2, .int .i64 a1_3] 52 (0, 0)) (za BK432.out)) : gb438 ≠ gb432)); clear HO_5; clear HO_6; clear BK431; clear BK432; clear HB; have HO_5 := n0_; have HO_6 := n1_; have BK431 := n2_; have BK432 := n3_; have HB := n4_; have BK438 := n5_; have GW438 := n6_; have GE438 := n7_; have NB431_438 := n8_; have NB438_431 := n9_; have NB432_438 := n10_; have NB438_432 := n11_; clear n0_ n1_ n2_ n3_ n4_ n5_ n6_ n7_ n8_ n9_ n10_ n11_; clear hb hbox hg; have hnb52 := NB438_431.out; have hnc52 := NB431_438.out; have hnb53 := NB438_432.out; have hnc53 := NB432_438.out; obtain ⟨hczL_0, hczL_1, hczL_2, hczL_3, hczL_4, hczL_5, hfzL_0, hfzL_1, hfzL_2, hfzL_3, hfzL_4, hfzL_5⟩ := bk6 BK438.out; obtain ⟨hczL_0, hczL_1, hfzL_0, hfzL_1⟩ := bk2 BK431.out; obtain ⟨hczL_0, hczL_1, hczL_2, hczL_3, hfzL_0, hfzL_1, hfzL_2, hfzL_3⟩ := bk4 BK432.out) | ((with_reducible refine q08 (f := 85) rfl ?_); refine q0n (some 33) rfl rfl Tryd.func85 (by kernel_rfl) rfl #[.agg #[.slice (some ad437) l0_0.length c0_0, .bool a0_1], .int .i64 (rd t433 x7_1), .agg #[.int .i64 a1_0, .int .i64 a1_1, .int .i64 a1_2, .int .i64 a1_3]] rfl zc ?_; (with_reducible refine (clerestoryref1_liesIn.calls k1 _ _ l0_0 a0_1 (rd t433 x7_1) a1_0 a1_1 a1_2 a1_3 false _ ?side1 ?side2 A13.out).mono ?_); (case side1 => exact Kd.C_below HR0_0.out (by repeat (first | (with_reducible first | exact HB.out | apply bA | apply bN | apply bD | refine bS ?_ GE431.out | refine bS ?_ GE432.out | refine bS ?_ GE438.out) | exact HB.out))); (case side2 => exact HC0_0.out); rintro e w57 ⟨rfl, hb⟩; refine ⟨_, rfl, ?_⟩; replace HO_5 := aS (Kd.S_below (by (with_reducible repeat (first | apply sA | apply sN | apply sD)); exact (Kd.S_mono (Kd.S_far (p := ⟨gb438, 5, none⟩) (Kd.S_far (p := ⟨gb438, 4, none⟩) (Kd.S_far (p := ⟨gb438, 3, none⟩) (Kd.S_far (p := ⟨gb438, 2, none⟩) (Kd.S_far (p := ⟨gb438, 1, none⟩) (Kd.S_far (p := ⟨gb438, 0, none⟩) (Kd.S_types HO_5.out BK438.out (by decide)) (fun _ hk => hk.2) (.int .i64 ((q00 l0_0 (rd t433 x7_1)).f0))) (fun _ hk => hk.2) (.string ((q00 l0_0 (rd t433 x7_1)).f1))) (fun _ hk => hk.2) (.slice A437_2 ((q00 l0_0 (rd t433 x7_1)).f2).length c437_2)) (fun _ hk => hk.2) (.string ((q00 l0_0 (rd t433 x7_1)).f3))) (fun _ hk => hk.2) (.int .i64 ((q00 l0_0 (rd t433 x7_1)).f4))) (fun _ hk => hk.2) (.slice A437_5 ((q00 l0_0 (rd t433 x7_1)).f5).length c437_5)) (fun _ h_ => h_.1))) hb); replace HO_6 := aS (Kd.R_below (by (with_reducible repeat (first | apply rA | apply rN | apply rD)); exact (Kd.R_mono (Kd.R_far (p := ⟨gb438, 5, none⟩) (Kd.R_far (p := ⟨gb438, 4, none⟩) (Kd.R_far (p := ⟨gb438, 3, none⟩) (Kd.R_far (p := ⟨gb438, 2, none⟩) (Kd.R_far (p := ⟨gb438, 1, none⟩) (Kd.R_far (p := ⟨gb438, 0, none⟩) (Kd.R_types HO_6.out BK438.out (by decide)) (fun _ hk => hk.2) (.int .i64 ((q00 l0_0 (rd t433 x7_1)).f0))) (fun _ hk => hk.2) (.string ((q00 l0_0 (rd t433 x7_1)).f1))) (fun _ hk => hk.2) (.slice A437_2 ((q00 l0_0 (rd t433 x7_1)).f2).length c437_2)) (fun _ hk => hk.2) (.string ((q00 l0_0 (rd t433 x7_1)).f3))) (fun _ hk => hk.2) (.int .i64 ((q00 l0_0 (rd t433 x7_1)).f4))) (fun _ hk => hk.2) (.slice A437_5 ((q00 l0_0 (rd t433 x7_1)).f5).length c437_5)) (fun _ h_ => h_.1))) hb); replace BK431 := aS (q01 (g := gb431) (o := .cells #[.slice (some ad437) l0_0.length c0_0, .bool a0_1] 24 (0, 0)) (by (with_reducible repeat (first | refine kN ?_ _ | refine kD ?_ | refine kA ?_ _)); refine q0d ?_ NB431_438.out _; (with_reducible repeat (first | refine kN ?_ _ | refine kD ?_ | refine kA ?_ _)); refine q0d ?_ NB431_438.out _; (with_reducible repeat (first | refine kN ?_ _ | refine kD ?_ | refine kA ?_ _)); refine q0d ?_ NB431_438.out _; (with_reducible repeat (first | refine kN ?_ _ | refine kD ?_ | refine kA ?_ _)); refine q0d ?_ NB431_438.out _; (with_reducible repeat (first | refine kN ?_ _ | refine kD ?_ | refine kA ?_ _)); refine q0d ?_ NB431_438.out _; (with_reducible repeat (first | refine kN ?_ _ | refine kD ?_ | refine kA ?_ _)); refine q0d ?_ NB431_438.out _; (with_reducible repeat (first | refine kN ?_ _ | refine kD ?_ | refine kA ?_ _)); exact BK431.out) hb); replace BK432 := aS (q01 (g := gb432) (o := .cells #[.int .i64 a1_0, .int .i64 a1_1, .int .i64 a1_2, .int .i64 a1_3] 52 (0, 0)) (by (with_reducible repeat (first | refine kN ?_ _ | refine kD ?_ | refine kA ?_ _)); refine q0d ?_ NB432_438.out _; (with_reducible repeat (first | refine kN ?_ _ | refine kD ?_ | refine kA ?_ _)); refine q0d ?_ NB432_438.out _; (with_reducible repeat (first | refine kN ?_ _ | refine kD ?_ | refine kA ?_ _)); refine q0d ?_ NB432_438.out _; (with_reducible repeat (first | refine kN ?_ _ | refine kD ?_ | refine kA ?_ _)); refine q0d ?_ NB432_438.out _; (with_reducible repeat (first | refine kN ?_ _ | refine kD ?_ | refine kA ?_ _)); refine q0d ?_ NB432_438.out _; (with_reducible repeat (first | refine kN ?_ _ | refine kD ?_ | refine kA ?_ _)); refine q0d ?_ NB432_438.out _; (with_reducible repeat (first | refine kN ?_ _ | refine kD ?_ | refine kA ?_ _)); exact BK432.out) hb); replace BK438 := aS (q01 (g := gb438) (o := .cells #[.int .i64 ((q00 l0_0 (rd t433 x7_1)).f0), .string ((q00 l0_0 (rd t433 x7_1)).f1), .slice A437_2 ((q00 l0_0 (rd t433 x7_1)).f2).length c437_2, .string ((q00 l0_0 (rd t433 x7_1)).f3), .int .i64 ((q00 l0_0 (rd t433 x7_1)).f4), .slice A437_5 ((q00 l0_0 (rd t433 x7_1)).f5).length c437_5] 43 (0, 0)) (by (with_reducible repeat (first | refine kN ?_ _ | refine kD ?_ | refine kA ?_ _)); refine q0h (cs := #[.int .i64 ((q00 l0_0 (rd t433 x7_1)).f0), .string ((q00 l0_0 (rd t433 x7_1)).f1), .slice A437_2 ((q00 l0_0 (rd t433 x7_1)).f2).length c437_2, .string ((q00 l0_0 (rd t433 x7_1)).f3), .int .i64 ((q00 l0_0 (rd t433 x7_1)).f4), .slice none 0 0]) ?_ 5 _ rfl; (with_reducible repeat (first | refine kN ?_ _ | refine kD ?_ | refine kA ?_ _)); refine q0h (cs := #[.int .i64 ((q00 l0_0 (rd t433 x7_1)).f0), .string ((q00 l0_0 (rd t433 x7_1)).f1), .slice A437_2 ((q00 l0_0 (rd t433 x7_1)).f2).length c437_2, .string ((q00 l0_0 (rd t433 x7_1)).f3), .int .i64 0, .slice none 0 0]) ?_ 4 _ rfl; (with_reducible repeat (first | refine kN ?_ _ | refine kD ?_ | refine kA ?_ _)); refine q0h (cs := #[.int .i64 ((q00 l0_0 (rd t433 x7_1)).f0), .string ((q00 l0_0 (rd t433 x7_1)).f1), .slice A437_2 ((q00 l0_0 (rd t433 x7_1)).f2).length c437_2, .string (⟨#[]⟩ : ByteArray), .int .i64 0, .slice none 0 0]) ?_ 3 _ rfl; (with_reducible repeat (first | refine kN ?_ _ | refine kD ?_ | refine kA ?_ _)); refine q0h (cs := #[.int .i64 ((q00 l0_0 (rd t433 x7_1)).f0), .string ((q00 l0_0 (rd t433 x7_1)).f1), .slice none 0 0, .string (⟨#[]⟩ : ByteArray), .int .i64 0, .slice none 0 0]) ?_ 2 _ rfl; (with_reducible repeat (first | refine kN ?_ _ | refine kD ?_ | refine kA ?_ _)); refine q0h (cs := #[.int .i64 ((q00 l0_0 (rd t433 x7_1)).f0), .string (⟨#[]⟩ : ByteArray), .slice none 0 0, .string (⟨#[]⟩ : ByteArray), .int .i64 0, .slice none 0 0]) ?_ 1 _ rfl; (with_reducible repeat (first | refine kN ?_ _ | refine kD ?_ | refine kA ?_ _)); refine q0h (cs := #[.int .i64 0, .string (⟨#[]⟩ : ByteArray), .slice none 0 0, .string (⟨#[]⟩ : ByteArray), .int .i64 0, .slice none 0 0]) ?_ 0 _ rfl; (with_reducible repeat (first | refine kN ?_ _ | refine kD ?_ | refine kA ?_ _)); exact BK438.out) hb); replace HB := aS (q02 (by repeat (first | (with_reducible first | exact HB.out | apply bA | apply bN | apply bD | refine bS ?_ GE431.out | refine bS ?_ GE432.out | refine bS ?_ GE438.out) | exact HB.out)) hb); (try clear hb); (try clear hb2); (try clear hk); (try clear hi)))
    (try simp only [Act.put, s1, s2, s3])
    go_cut [66] (fun v66 wc => ∃ (kq : Nat) (x66_46 : Bool), v66 = .bool x66_46 ∧ Aside0 (clerestoryref1_SpanCut.j1 kq x5_1 t433 x7_1 (rd t433 x7_1) x66_46 l0_0 a0_1 a1_0 a1_1 a1_2 a1_3 ((q00 l0_0 (rd t433 x7_1)).f0) ((q00 l0_0 (rd t433 x7_1)).f1) ((q00 l0_0 (rd t433 x7_1)).f2) ((q00 l0_0 (rd t433 x7_1)).f3) ((q00 l0_0 (rd t433 x7_1)).f4) ((q00 l0_0 (rd t433 x7_1)).f5) = some r) ∧ Aside0 (kq ≤ k1) ∧ Aside0 (Kd.S k87 87 wc w.heap.size (fun k_ => some k_ ≠ ((.slice (some ad436) t433.length co48) : Value).ownBlock) u5 x5_1) ∧ Aside0 (Kd.R (Kd.int .i64) 3 wc w.heap.size (fun _ => True) (.slice (some ad436) t433.length co48) t433) ∧ Aside0 (wc.heap[gb431]? = some (.cells #[(.slice (some ad437) l0_0.length c0_0), .bool a0_1] 24 (0, 0))) ∧ Aside0 (wc.heap[gb432]? = some (.cells #[.int .i64 a1_0, .int .i64 a1_1, .int .i64 a1_2, .int .i64 a1_3] 52 (0, 0))) ∧ Aside0 (wc.heap[gb438]? = some (.cells #[.int .i64 ((q00 l0_0 (rd t433 x7_1)).f0), .string ((q00 l0_0 (rd t433 x7_1)).f1), (.slice A437_2 ((q00 l0_0 (rd t433 x7_1)).f2).length c437_2), .string ((q00 l0_0 (rd t433 x7_1)).f3), .int .i64 ((q00 l0_0 (rd t433 x7_1)).f4), (.slice A437_5 ((q00 l0_0 (rd t433 x7_1)).f5).length c437_5)] 43 (0, 0))) ∧ Aside0 (Below w.heap.size w wc))
    case first =>
     have H := HC47.out
     clear HC47
     refine iE H ?p58 ?n58 <;> clear H
     case' p58 => intro c58b0 c58b1 H; (first | rw [c58b0] | (simp only [q09, q0a]; rw [c58b0]) | skip); refine iE H ?p59 ?n59 <;> clear H
     case' p59 => intro c59b0 c59b1 H
     case' n59 => intro c59 c59b0 c59b1 H
     case' n58 => intro c58 c58b0 c58b1 H; (first | rw [c58b0] | (simp only [q09, q0a]; rw [c58b0]) | skip); refine iE H ?p70 ?n70 <;> clear H
     case' p70 => intro c70b0 c70b1 H; refine iE H ?p71 ?n71 <;> clear H
     case' p71 => intro c71b0 c71b1 H
     case' n71 => intro c71 c71b0 c71b1 H
     case' n70 => intro c70 c70b0 c70b1 H
     case p59 =>
      have H' := aS H
      clear H
      have hnb60 := NB438_431.out
      have hnc60 := NB431_438.out
      have hnb61 := NB438_432.out
      have hnc61 := NB432_438.out
      obtain ⟨hczL_0, hczL_1, hczL_2, hczL_3, hczL_4, hczL_5, hfzL_0, hfzL_1, hfzL_2, hfzL_3, hfzL_4, hfzL_5⟩ := bk6 BK438.out
      have hnb63 := NB432_431.out
      have hnc63 := NB431_432.out
      obtain ⟨hczL_0, hczL_1, hczL_2, hczL_3, hfzL_0, hfzL_1, hfzL_2, hfzL_3⟩ := bk4 BK432.out
      go_wp2
      go_meet
      case rel => exact ⟨_, _, zi, H', ⟨by have := HK1.out; first | omega | exact Nat.le_refl _⟩, ⟨by (with_reducible repeat (first | apply sA | apply sN | apply sD)); exact HO_5.out⟩, ⟨by (with_reducible repeat (first | apply rA | apply rN | apply rD)); exact HO_6.out⟩, ⟨by (with_reducible repeat (first | refine kN ?_ _ | refine kD ?_ | refine kA ?_ _)); exact BK431.out⟩, ⟨by (with_reducible repeat (first | refine kN ?_ _ | refine kD ?_ | refine kA ?_ _)); exact BK432.out⟩, ⟨by (with_reducible repeat (first | refine kN ?_ _ | refine kD ?_ | refine kA ?_ _)); exact BK438.out⟩, ⟨by repeat (first | (with_reducible first | exact HB.out | apply bA | apply bN | apply bD | refine bS ?_ GE431.out | refine bS ?_ GE432.out | refine bS ?_ GE438.out) | exact HB.out)⟩⟩
     case n59 =>
      have H' := aS H
      clear H
      have hnb65 := NB438_431.out
      have hnc65 := NB431_438.out
      have hnb66 := NB438_432.out
      have hnc66 := NB432_438.out
      obtain ⟨hczL_0, hczL_1, hczL_2, hczL_3, hczL_4, hczL_5, hfzL_0, hfzL_1, hfzL_2, hfzL_3, hfzL_4, hfzL_5⟩ := bk6 BK438.out
      have hnb68 := NB432_431.out
      have hnc68 := NB431_432.out
      obtain ⟨hczL_0, hczL_1, hczL_2, hczL_3, hfzL_0, hfzL_1, hfzL_2, hfzL_3⟩ := bk4 BK432.out
      go_wp2
      go_meet
      case rel => exact ⟨_, ((a1_2 != (rd t433 x7_1))), zi, H', ⟨by have := HK1.out; first | omega | exact Nat.le_refl _⟩, ⟨by (with_reducible repeat (first | apply sA | apply sN | apply sD)); exact HO_5.out⟩, ⟨by (with_reducible repeat (first | apply rA | apply rN | apply rD)); exact HO_6.out⟩, ⟨by (with_reducible repeat (first | refine kN ?_ _ | refine kD ?_ | refine kA ?_ _)); exact BK431.out⟩, ⟨by (with_reducible repeat (first | refine kN ?_ _ | refine kD ?_ | refine kA ?_ _)); exact BK432.out⟩, ⟨by (with_reducible repeat (first | refine kN ?_ _ | refine kD ?_ | refine kA ?_ _)); exact BK438.out⟩, ⟨by repeat (first | (with_reducible first | exact HB.out | apply bA | apply bN | apply bD | refine bS ?_ GE431.out | refine bS ?_ GE432.out | refine bS ?_ GE438.out) | exact HB.out)⟩⟩
     case p71 =>
      have H' := aS H
      clear H
      have hnb72 := NB438_431.out
      have hnc72 := NB431_438.out
      have hnb73 := NB438_432.out
      have hnc73 := NB432_438.out
      obtain ⟨hczL_0, hczL_1, hczL_2, hczL_3, hczL_4, hczL_5, hfzL_0, hfzL_1, hfzL_2, hfzL_3, hfzL_4, hfzL_5⟩ := bk6 BK438.out
      have hnb75 := NB432_431.out
      have hnc75 := NB431_432.out
      obtain ⟨hczL_0, hczL_1, hczL_2, hczL_3, hfzL_0, hfzL_1, hfzL_2, hfzL_3⟩ := bk4 BK432.out
      go_wp2
      go_meet
      case rel => exact ⟨_, _, zi, H', ⟨by have := HK1.out; first | omega | exact Nat.le_refl _⟩, ⟨by (with_reducible repeat (first | apply sA | apply sN | apply sD)); exact HO_5.out⟩, ⟨by (with_reducible repeat (first | apply rA | apply rN | apply rD)); exact HO_6.out⟩, ⟨by (with_reducible repeat (first | refine kN ?_ _ | refine kD ?_ | refine kA ?_ _)); exact BK431.out⟩, ⟨by (with_reducible repeat (first | refine kN ?_ _ | refine kD ?_ | refine kA ?_ _)); exact BK432.out⟩, ⟨by (with_reducible repeat (first | refine kN ?_ _ | refine kD ?_ | refine kA ?_ _)); exact BK438.out⟩, ⟨by repeat (first | (with_reducible first | exact HB.out | apply bA | apply bN | apply bD | refine bS ?_ GE431.out | refine bS ?_ GE432.out | refine bS ?_ GE438.out) | exact HB.out)⟩⟩
     case n71 =>
      have H' := aS H
      clear H
      have hnb77 := NB438_431.out
      have hnc77 := NB431_438.out
      have hnb78 := NB438_432.out
      have hnc78 := NB432_438.out
      obtain ⟨hczL_0, hczL_1, hczL_2, hczL_3, hczL_4, hczL_5, hfzL_0, hfzL_1, hfzL_2, hfzL_3, hfzL_4, hfzL_5⟩ := bk6 BK438.out
      have hnb80 := NB432_431.out
      have hnc80 := NB431_432.out
      obtain ⟨hczL_0, hczL_1, hczL_2, hczL_3, hfzL_0, hfzL_1, hfzL_2, hfzL_3⟩ := bk4 BK432.out
      go_wp2
      go_meet
      case rel => exact ⟨_, ((a1_2 != (rd t433 x7_1))), zi, H', ⟨by have := HK1.out; first | omega | exact Nat.le_refl _⟩, ⟨by (with_reducible repeat (first | apply sA | apply sN | apply sD)); exact HO_5.out⟩, ⟨by (with_reducible repeat (first | apply rA | apply rN | apply rD)); exact HO_6.out⟩, ⟨by (with_reducible repeat (first | refine kN ?_ _ | refine kD ?_ | refine kA ?_ _)); exact BK431.out⟩, ⟨by (with_reducible repeat (first | refine kN ?_ _ | refine kD ?_ | refine kA ?_ _)); exact BK432.out⟩, ⟨by (with_reducible repeat (first | refine kN ?_ _ | refine kD ?_ | refine kA ?_ _)); exact BK438.out⟩, ⟨by repeat (first | (with_reducible first | exact HB.out | apply bA | apply bN | apply bD | refine bS ?_ GE431.out | refine bS ?_ GE432.out | refine bS ?_ GE438.out) | exact HB.out)⟩⟩
     case n70 =>
      have H' := aS H
      clear H
      have hnb82 := NB438_431.out
      have hnc82 := NB431_438.out
      have hnb83 := NB438_432.out
      have hnc83 := NB432_438.out
      obtain ⟨hczL_0, hczL_1, hczL_2, hczL_3, hczL_4, hczL_5, hfzL_0, hfzL_1, hfzL_2, hfzL_3, hfzL_4, hfzL_5⟩ := bk6 BK438.out
      go_wp2
      go_meet
      case rel => exact ⟨_, _, zi, H', ⟨by have := HK1.out; first | omega | exact Nat.le_refl _⟩, ⟨by (with_reducible repeat (first | apply sA | apply sN | apply sD)); exact HO_5.out⟩, ⟨by (with_reducible repeat (first | apply rA | apply rN | apply rD)); exact HO_6.out⟩, ⟨by (with_reducible repeat (first | refine kN ?_ _ | refine kD ?_ | refine kA ?_ _)); exact BK431.out⟩, ⟨by (with_reducible repeat (first | refine kN ?_ _ | refine kD ?_ | refine kA ?_ _)); exact BK432.out⟩, ⟨by (with_reducible repeat (first | refine kN ?_ _ | refine kD ?_ | refine kA ?_ _)); exact BK438.out⟩, ⟨by repeat (first | (with_reducible first | exact HB.out | apply bA | apply bN | apply bD | refine bS ?_ GE431.out | refine bS ?_ GE432.out | refine bS ?_ GE438.out) | exact HB.out)⟩⟩
    case rest =>
     clear HC47
     obtain ⟨kq, x66_46, rfl, HA, HJ46, HO_5, HO_6, BK431, BK432, BK438, HB⟩ := hcut
     cases kq with
     | zero => exact absurd HA.out (by simp [clerestoryref1_SpanCut.j1])
     | succ kj46 =>
      have H := HA.out
      clear HA
      simp only [clerestoryref1_SpanCut.j1] at H
      refine iV H ?p85 ?n85 <;> clear H
      case' p85 => intro c85 H; subst c85
      case' n85 => intro c85 H; subst c85
      case p85 =>
       have H' := aS H
       clear H
       go_wp2
       go_roundg kj46
       case measure => have := HK1.out; have := HJ46.out; omega
       case rel => exact ⟨(x5_1), (wrap64 (x7_1 + 1)), zi, H', ⟨by have := HK1.out; have := HJ46.out; omega⟩, ⟨by (with_reducible repeat (first | apply sA | apply sN | apply sD)); exact HO_5.out⟩, ⟨by (with_reducible repeat (first | apply rA | apply rN | apply rD)); exact HO_6.out⟩, ⟨by (with_reducible repeat (first | refine kN ?_ _ | refine kD ?_ | refine kA ?_ _)); exact BK431.out⟩, ⟨by (with_reducible repeat (first | refine kN ?_ _ | refine kD ?_ | refine kA ?_ _)); exact BK432.out⟩, ⟨by repeat (first | (with_reducible first | exact HB.out | apply bA | apply bN | apply bD | refine bS ?_ GE431.out | refine bS ?_ GE432.out | refine bS ?_ GE438.out) | exact HB.out)⟩⟩
      case n85 =>
       have H' := aS H
       clear H
       go_wp2
       go_loopg [10, 11] kj46 (fun kq v10 v11 w' => ∃ (x10_3 : ByteArray) (x11_3 : Int), v10 = .string x10_3 ∧ v11 = .int .i64 x11_3 ∧ Aside0 (clerestoryref1_SpanCut.l1 kq x5_1 t433 x7_1 (rd t433 x7_1) x10_3 x11_3 l0_0 a0_1 a1_0 a1_1 a1_2 a1_3 ((q00 l0_0 (rd t433 x7_1)).f0) ((q00 l0_0 (rd t433 x7_1)).f1) ((q00 l0_0 (rd t433 x7_1)).f2) ((q00 l0_0 (rd t433 x7_1)).f3) ((q00 l0_0 (rd t433 x7_1)).f4) ((q00 l0_0 (rd t433 x7_1)).f5) = some r) ∧ Aside0 (kq ≤ kj46) ∧ Aside0 (Kd.S k87 87 w' w.heap.size (fun k_ => some k_ ≠ ((.slice (some ad436) t433.length co48) : Value).ownBlock) u5 x5_1) ∧ Aside0 (Kd.R (Kd.int .i64) 3 w' w.heap.size (fun _ => True) (.slice (some ad436) t433.length co48) t433) ∧ Aside0 (w'.heap[gb431]? = some (.cells #[(.slice (some ad437) l0_0.length c0_0), .bool a0_1] 24 (0, 0))) ∧ Aside0 (w'.heap[gb432]? = some (.cells #[.int .i64 a1_0, .int .i64 a1_1, .int .i64 a1_2, .int .i64 a1_3] 52 (0, 0))) ∧ Aside0 (w'.heap[gb438]? = some (.cells #[.int .i64 ((q00 l0_0 (rd t433 x7_1)).f0), .string ((q00 l0_0 (rd t433 x7_1)).f1), (.slice A437_2 ((q00 l0_0 (rd t433 x7_1)).f2).length c437_2), .string ((q00 l0_0 (rd t433 x7_1)).f3), .int .i64 ((q00 l0_0 (rd t433 x7_1)).f4), (.slice A437_5 ((q00 l0_0 (rd t433 x7_1)).f5).length c437_5)] 43 (0, 0))) ∧ Aside0 (Below w.heap.size w w'))
       case atStart => exact ⟨((⟨#[]⟩ : ByteArray)), (0), zi, zi, H', ⟨Nat.le_refl _⟩, ⟨by (with_reducible repeat (first | apply sA | apply sN | apply sD)); exact HO_5.out⟩, ⟨by (with_reducible repeat (first | apply rA | apply rN | apply rD)); exact HO_6.out⟩, ⟨by (with_reducible repeat (first | refine kN ?_ _ | refine kD ?_ | refine kA ?_ _)); exact BK431.out⟩, ⟨by (with_reducible repeat (first | refine kN ?_ _ | refine kD ?_ | refine kA ?_ _)); exact BK432.out⟩, ⟨by (with_reducible repeat (first | refine kN ?_ _ | refine kD ?_ | refine kA ?_ _)); exact BK438.out⟩, ⟨by repeat (first | (with_reducible first | exact HB.out | apply bA | apply bN | apply bD | refine bS ?_ GE431.out | refine bS ?_ GE432.out | refine bS ?_ GE438.out) | exact HB.out)⟩⟩
       case round =>
        clear H'
        obtain ⟨x10_3, x11_3, rfl, rfl, HA, HK3, HO_5, HO_6, BK431, BK432, BK438, HB⟩ := hrel
        cases gk with
        | zero => exact absurd HA.out (by simp [clerestoryref1_SpanCut.l1])
        | succ k3 =>
         have H := HA.out
         clear HA
         simp only [clerestoryref1_SpanCut.l1] at H
         refine iT H ?p86 ?n86 <;> clear H
         case' p86 => intro c86b0 H; refine iE H ?p87 ?n87 <;> clear H
         case' p87 => intro c87b0 c87b1 H; refine iL H ?p88 ?n88 <;> clear H
         case' p88 => intro c88b0 H; refine iE H ?p89 ?n89 <;> clear H
         case' p89 => intro c89b0 c89b1 H; refine iT H ?p90 ?n90 <;> clear H
         case' p90 => intro c90b0 H
         case' n90 =>
          intro c90b0 H
          refine iGp H ?_; clear H; intro c96 H
          have c96b0 := eq_true c96
          have c96b1 : decide (0 ≤ x11_3) = true := decide_eq_true c96
          clear c96
          refine iGp H ?_; clear H; intro c97 H
          have c97b0 := eq_true c97
          have c97b1 : decide (x11_3 ≤ (wrap64 (x11_3 + 1))) = true := decide_eq_true c97
          refine iGp H ?_; clear H; intro c98 H
          have c98b0 := eq_true c98
          have c98b1 : decide ((wrap64 (x11_3 + 1)) ≤ (((q00 l0_0 (rd t433 x7_1)).f3).size : Int)) = true := decide_eq_true c98
          refine iGp H ?_; clear H; intro c99 H
          have c99b0 := eq_true c99
          have c99b1 : decide (x10_3.size + (((q00 l0_0 (rd t433 x7_1)).f3).extract (x11_3 : Int).toNat ((wrap64 (x11_3 + 1)) : Int).toNat).size ≤ 9223372036854775807) = true := decide_eq_true c99
         case' n89 => intro c89 c89b0 c89b1 H
         case' n88 =>
          intro c88b0 H
          refine iGp H ?_; clear H; intro c110 H
          have c110b0 := eq_true c110
          have c110b1 : decide (0 ≤ x11_3) = true := decide_eq_true c110
          clear c110
          refine iGp H ?_; clear H; intro c111 H
          have c111b0 := eq_true c111
          have c111b1 : decide (x11_3 ≤ (wrap64 (x11_3 + 1))) = true := decide_eq_true c111
          refine iGp H ?_; clear H; intro c112 H
          have c112b0 := eq_true c112
          have c112b1 : decide ((wrap64 (x11_3 + 1)) ≤ (((q00 l0_0 (rd t433 x7_1)).f3).size : Int)) = true := decide_eq_true c112
          refine iGp H ?_; clear H; intro c113 H
          have c113b0 := eq_true c113
          have c113b1 : decide (x10_3.size + (((q00 l0_0 (rd t433 x7_1)).f3).extract (x11_3 : Int).toNat ((wrap64 (x11_3 + 1)) : Int).toNat).size ≤ 9223372036854775807) = true := decide_eq_true c113
         case' n87 => intro c87 c87b0 c87b1 H; refine iE H ?p119 ?n119 <;> clear H
         case' p119 => intro c119b0 c119b1 H; refine iT H ?p120 ?n120 <;> clear H
         case' p120 => intro c120b0 H
         case' n120 =>
          intro c120b0 H
          refine iGp H ?_; clear H; intro c126 H
          have c126b0 := eq_true c126
          have c126b1 : decide (0 ≤ x11_3) = true := decide_eq_true c126
          clear c126
          refine iGp H ?_; clear H; intro c127 H
          have c127b0 := eq_true c127
          have c127b1 : decide (x11_3 ≤ (wrap64 (x11_3 + 1))) = true := decide_eq_true c127
          refine iGp H ?_; clear H; intro c128 H
          have c128b0 := eq_true c128
          have c128b1 : decide ((wrap64 (x11_3 + 1)) ≤ (((q00 l0_0 (rd t433 x7_1)).f3).size : Int)) = true := decide_eq_true c128
          refine iGp H ?_; clear H; intro c129 H
          have c129b0 := eq_true c129
          have c129b1 : decide (x10_3.size + (((q00 l0_0 (rd t433 x7_1)).f3).extract (x11_3 : Int).toNat ((wrap64 (x11_3 + 1)) : Int).toNat).size ≤ 9223372036854775807) = true := decide_eq_true c129
         case' n119 => intro c119 c119b0 c119b1 H
         case' n86 => intro c86b0 H; refine iE H ?p140 ?n140 <;> clear H
         case' p140 => intro c140b0 c140b1 H
         case' n140 => intro c140 c140b0 c140b1 H; refine iGp H ?_; clear H; intro c144 H
         case p90 =>
          have H' := aS H
          clear H
          have hnb91 := NB438_431.out
          have hnc91 := NB431_438.out
          have hnb92 := NB438_432.out
          have hnc92 := NB432_438.out
          obtain ⟨hczL_0, hczL_1, hczL_2, hczL_3, hczL_4, hczL_5, hfzL_0, hfzL_1, hfzL_2, hfzL_3, hfzL_4, hfzL_5⟩ := bk6 BK438.out
          have hnb94 := NB432_431.out
          have hnc94 := NB431_432.out
          obtain ⟨hczL_0, hczL_1, hczL_2, hczL_3, hfzL_0, hfzL_1, hfzL_2, hfzL_3⟩ := bk4 BK432.out
          go_wp2
          go_roundg k3
          case measure => have := HK1.out; have := HJ46.out; have := HK3.out; omega
          case rel => exact ⟨(x10_3), (wrap64 (x11_3 + 1)), zi, zi, H', ⟨by have := HK1.out; have := HJ46.out; have := HK3.out; omega⟩, ⟨by (with_reducible repeat (first | apply sA | apply sN | apply sD)); exact HO_5.out⟩, ⟨by (with_reducible repeat (first | apply rA | apply rN | apply rD)); exact HO_6.out⟩, ⟨by (with_reducible repeat (first | refine kN ?_ _ | refine kD ?_ | refine kA ?_ _)); exact BK431.out⟩, ⟨by (with_reducible repeat (first | refine kN ?_ _ | refine kD ?_ | refine kA ?_ _)); exact BK432.out⟩, ⟨by (with_reducible repeat (first | refine kN ?_ _ | refine kD ?_ | refine kA ?_ _)); exact BK438.out⟩, ⟨by repeat (first | (with_reducible first | exact HB.out | apply bA | apply bN | apply bD | refine bS ?_ GE431.out | refine bS ?_ GE432.out | refine bS ?_ GE438.out) | exact HB.out)⟩⟩
         case n90 =>
          try have c99b2 : (9223372036854775807 < x10_3.size + (((q00 l0_0 (rd t433 x7_1)).f3).extract (x11_3 : Int).toNat ((wrap64 (x11_3 + 1)) : Int).toNat).size) = False := eq_false (Nat.not_lt.2 c99)
          have H' := aS H
          clear H
          have hnb100 := NB438_431.out
          have hnc100 := NB431_438.out
          have hnb101 := NB438_432.out
          have hnc101 := NB432_438.out
          obtain ⟨hczL_0, hczL_1, hczL_2, hczL_3, hczL_4, hczL_5, hfzL_0, hfzL_1, hfzL_2, hfzL_3, hfzL_4, hfzL_5⟩ := bk6 BK438.out
          have hnb103 := NB432_431.out
          have hnc103 := NB431_432.out
          obtain ⟨hczL_0, hczL_1, hczL_2, hczL_3, hfzL_0, hfzL_1, hfzL_2, hfzL_3⟩ := bk4 BK432.out
          go_wp2
          go_roundg k3
          case measure => have := HK1.out; have := HJ46.out; have := HK3.out; omega
          case rel => exact ⟨(x10_3 ++ (((q00 l0_0 (rd t433 x7_1)).f3).extract (x11_3 : Int).toNat ((wrap64 (x11_3 + 1)) : Int).toNat)), (wrap64 (x11_3 + 1)), zi, zi, H', ⟨by have := HK1.out; have := HJ46.out; have := HK3.out; omega⟩, ⟨by (with_reducible repeat (first | apply sA | apply sN | apply sD)); exact HO_5.out⟩, ⟨by (with_reducible repeat (first | apply rA | apply rN | apply rD)); exact HO_6.out⟩, ⟨by (with_reducible repeat (first | refine kN ?_ _ | refine kD ?_ | refine kA ?_ _)); exact BK431.out⟩, ⟨by (with_reducible repeat (first | refine kN ?_ _ | refine kD ?_ | refine kA ?_ _)); exact BK432.out⟩, ⟨by (with_reducible repeat (first | refine kN ?_ _ | refine kD ?_ | refine kA ?_ _)); exact BK438.out⟩, ⟨by repeat (first | (with_reducible first | exact HB.out | apply bA | apply bN | apply bD | refine bS ?_ GE431.out | refine bS ?_ GE432.out | refine bS ?_ GE438.out) | exact HB.out)⟩⟩
         case n89 =>
          have H' := aS H
          clear H
          have hnb105 := NB438_431.out
          have hnc105 := NB431_438.out
          have hnb106 := NB438_432.out
          have hnc106 := NB432_438.out
          obtain ⟨hczL_0, hczL_1, hczL_2, hczL_3, hczL_4, hczL_5, hfzL_0, hfzL_1, hfzL_2, hfzL_3, hfzL_4, hfzL_5⟩ := bk6 BK438.out
          have hnb108 := NB432_431.out
          have hnc108 := NB431_432.out
          obtain ⟨hczL_0, hczL_1, hczL_2, hczL_3, hfzL_0, hfzL_1, hfzL_2, hfzL_3⟩ := bk4 BK432.out
          go_wp2
          go_roundg k3
          case measure => have := HK1.out; have := HJ46.out; have := HK3.out; omega
          case rel => exact ⟨(x10_3), (wrap64 (x11_3 + 1)), zi, zi, H', ⟨by have := HK1.out; have := HJ46.out; have := HK3.out; omega⟩, ⟨by (with_reducible repeat (first | apply sA | apply sN | apply sD)); exact HO_5.out⟩, ⟨by (with_reducible repeat (first | apply rA | apply rN | apply rD)); exact HO_6.out⟩, ⟨by (with_reducible repeat (first | refine kN ?_ _ | refine kD ?_ | refine kA ?_ _)); exact BK431.out⟩, ⟨by (with_reducible repeat (first | refine kN ?_ _ | refine kD ?_ | refine kA ?_ _)); exact BK432.out⟩, ⟨by (with_reducible repeat (first | refine kN ?_ _ | refine kD ?_ | refine kA ?_ _)); exact BK438.out⟩, ⟨by repeat (first | (with_reducible first | exact HB.out | apply bA | apply bN | apply bD | refine bS ?_ GE431.out | refine bS ?_ GE432.out | refine bS ?_ GE438.out) | exact HB.out)⟩⟩
         case n88 =>
          try have c113b2 : (9223372036854775807 < x10_3.size + (((q00 l0_0 (rd t433 x7_1)).f3).extract (x11_3 : Int).toNat ((wrap64 (x11_3 + 1)) : Int).toNat).size) = False := eq_false (Nat.not_lt.2 c113)
          have H' := aS H
          clear H
          have hnb114 := NB438_431.out
          have hnc114 := NB431_438.out
          have hnb115 := NB438_432.out
          have hnc115 := NB432_438.out
          obtain ⟨hczL_0, hczL_1, hczL_2, hczL_3, hczL_4, hczL_5, hfzL_0, hfzL_1, hfzL_2, hfzL_3, hfzL_4, hfzL_5⟩ := bk6 BK438.out
          have hnb117 := NB432_431.out
          have hnc117 := NB431_432.out
          obtain ⟨hczL_0, hczL_1, hczL_2, hczL_3, hfzL_0, hfzL_1, hfzL_2, hfzL_3⟩ := bk4 BK432.out
          go_wp2
          go_roundg k3
          case measure => have := HK1.out; have := HJ46.out; have := HK3.out; omega
          case rel => exact ⟨(x10_3 ++ (((q00 l0_0 (rd t433 x7_1)).f3).extract (x11_3 : Int).toNat ((wrap64 (x11_3 + 1)) : Int).toNat)), (wrap64 (x11_3 + 1)), zi, zi, H', ⟨by have := HK1.out; have := HJ46.out; have := HK3.out; omega⟩, ⟨by (with_reducible repeat (first | apply sA | apply sN | apply sD)); exact HO_5.out⟩, ⟨by (with_reducible repeat (first | apply rA | apply rN | apply rD)); exact HO_6.out⟩, ⟨by (with_reducible repeat (first | refine kN ?_ _ | refine kD ?_ | refine kA ?_ _)); exact BK431.out⟩, ⟨by (with_reducible repeat (first | refine kN ?_ _ | refine kD ?_ | refine kA ?_ _)); exact BK432.out⟩, ⟨by (with_reducible repeat (first | refine kN ?_ _ | refine kD ?_ | refine kA ?_ _)); exact BK438.out⟩, ⟨by repeat (first | (with_reducible first | exact HB.out | apply bA | apply bN | apply bD | refine bS ?_ GE431.out | refine bS ?_ GE432.out | refine bS ?_ GE438.out) | exact HB.out)⟩⟩
         case p120 =>
          have H' := aS H
          clear H
          have hnb121 := NB438_431.out
          have hnc121 := NB431_438.out
          have hnb122 := NB438_432.out
          have hnc122 := NB432_438.out
          obtain ⟨hczL_0, hczL_1, hczL_2, hczL_3, hczL_4, hczL_5, hfzL_0, hfzL_1, hfzL_2, hfzL_3, hfzL_4, hfzL_5⟩ := bk6 BK438.out
          have hnb124 := NB432_431.out
          have hnc124 := NB431_432.out
          obtain ⟨hczL_0, hczL_1, hczL_2, hczL_3, hfzL_0, hfzL_1, hfzL_2, hfzL_3⟩ := bk4 BK432.out
          go_wp2
          go_roundg k3
          case measure => have := HK1.out; have := HJ46.out; have := HK3.out; omega
          case rel => exact ⟨(x10_3), (wrap64 (x11_3 + 1)), zi, zi, H', ⟨by have := HK1.out; have := HJ46.out; have := HK3.out; omega⟩, ⟨by (with_reducible repeat (first | apply sA | apply sN | apply sD)); exact HO_5.out⟩, ⟨by (with_reducible repeat (first | apply rA | apply rN | apply rD)); exact HO_6.out⟩, ⟨by (with_reducible repeat (first | refine kN ?_ _ | refine kD ?_ | refine kA ?_ _)); exact BK431.out⟩, ⟨by (with_reducible repeat (first | refine kN ?_ _ | refine kD ?_ | refine kA ?_ _)); exact BK432.out⟩, ⟨by (with_reducible repeat (first | refine kN ?_ _ | refine kD ?_ | refine kA ?_ _)); exact BK438.out⟩, ⟨by repeat (first | (with_reducible first | exact HB.out | apply bA | apply bN | apply bD | refine bS ?_ GE431.out | refine bS ?_ GE432.out | refine bS ?_ GE438.out) | exact HB.out)⟩⟩
         case n120 =>
          try have c129b2 : (9223372036854775807 < x10_3.size + (((q00 l0_0 (rd t433 x7_1)).f3).extract (x11_3 : Int).toNat ((wrap64 (x11_3 + 1)) : Int).toNat).size) = False := eq_false (Nat.not_lt.2 c129)
          have H' := aS H
          clear H
          have hnb130 := NB438_431.out
          have hnc130 := NB431_438.out
          have hnb131 := NB438_432.out
          have hnc131 := NB432_438.out
          obtain ⟨hczL_0, hczL_1, hczL_2, hczL_3, hczL_4, hczL_5, hfzL_0, hfzL_1, hfzL_2, hfzL_3, hfzL_4, hfzL_5⟩ := bk6 BK438.out
          have hnb133 := NB432_431.out
          have hnc133 := NB431_432.out
          obtain ⟨hczL_0, hczL_1, hczL_2, hczL_3, hfzL_0, hfzL_1, hfzL_2, hfzL_3⟩ := bk4 BK432.out
          go_wp2
          go_roundg k3
          case measure => have := HK1.out; have := HJ46.out; have := HK3.out; omega
          case rel => exact ⟨(x10_3 ++ (((q00 l0_0 (rd t433 x7_1)).f3).extract (x11_3 : Int).toNat ((wrap64 (x11_3 + 1)) : Int).toNat)), (wrap64 (x11_3 + 1)), zi, zi, H', ⟨by have := HK1.out; have := HJ46.out; have := HK3.out; omega⟩, ⟨by (with_reducible repeat (first | apply sA | apply sN | apply sD)); exact HO_5.out⟩, ⟨by (with_reducible repeat (first | apply rA | apply rN | apply rD)); exact HO_6.out⟩, ⟨by (with_reducible repeat (first | refine kN ?_ _ | refine kD ?_ | refine kA ?_ _)); exact BK431.out⟩, ⟨by (with_reducible repeat (first | refine kN ?_ _ | refine kD ?_ | refine kA ?_ _)); exact BK432.out⟩, ⟨by (with_reducible repeat (first | refine kN ?_ _ | refine kD ?_ | refine kA ?_ _)); exact BK438.out⟩, ⟨by repeat (first | (with_reducible first | exact HB.out | apply bA | apply bN | apply bD | refine bS ?_ GE431.out | refine bS ?_ GE432.out | refine bS ?_ GE438.out) | exact HB.out)⟩⟩
         case n119 =>
          have H' := aS H
          clear H
          have hnb135 := NB438_431.out
          have hnc135 := NB431_438.out
          have hnb136 := NB438_432.out
          have hnc136 := NB432_438.out
          obtain ⟨hczL_0, hczL_1, hczL_2, hczL_3, hczL_4, hczL_5, hfzL_0, hfzL_1, hfzL_2, hfzL_3, hfzL_4, hfzL_5⟩ := bk6 BK438.out
          have hnb138 := NB432_431.out
          have hnc138 := NB431_432.out
          obtain ⟨hczL_0, hczL_1, hczL_2, hczL_3, hfzL_0, hfzL_1, hfzL_2, hfzL_3⟩ := bk4 BK432.out
          go_wp2
          go_roundg k3
          case measure => have := HK1.out; have := HJ46.out; have := HK3.out; omega
          case rel => exact ⟨(x10_3), (wrap64 (x11_3 + 1)), zi, zi, H', ⟨by have := HK1.out; have := HJ46.out; have := HK3.out; omega⟩, ⟨by (with_reducible repeat (first | apply sA | apply sN | apply sD)); exact HO_5.out⟩, ⟨by (with_reducible repeat (first | apply rA | apply rN | apply rD)); exact HO_6.out⟩, ⟨by (with_reducible repeat (first | refine kN ?_ _ | refine kD ?_ | refine kA ?_ _)); exact BK431.out⟩, ⟨by (with_reducible repeat (first | refine kN ?_ _ | refine kD ?_ | refine kA ?_ _)); exact BK432.out⟩, ⟨by (with_reducible repeat (first | refine kN ?_ _ | refine kD ?_ | refine kA ?_ _)); exact BK438.out⟩, ⟨by repeat (first | (with_reducible first | exact HB.out | apply bA | apply bN | apply bD | refine bS ?_ GE431.out | refine bS ?_ GE432.out | refine bS ?_ GE438.out) | exact HB.out)⟩⟩
         case p140 =>
          have H' := aS H
          clear H
          have hnb141 := NB438_431.out
          have hnc141 := NB431_438.out
          have hnb142 := NB438_432.out
          have hnc142 := NB432_438.out
          obtain ⟨hczL_0, hczL_1, hczL_2, hczL_3, hczL_4, hczL_5, hfzL_0, hfzL_1, hfzL_2, hfzL_3, hfzL_4, hfzL_5⟩ := bk6 BK438.out
          go_wp2
          go_roundg k3
          case measure => have := HK1.out; have := HJ46.out; have := HK3.out; omega
          case rel => exact ⟨(x5_1), (wrap64 (x7_1 + 1)), zi, H', ⟨by have := HK1.out; have := HJ46.out; have := HK3.out; omega⟩, ⟨by (with_reducible repeat (first | apply sA | apply sN | apply sD)); exact HO_5.out⟩, ⟨by (with_reducible repeat (first | apply rA | apply rN | apply rD)); exact HO_6.out⟩, ⟨by (with_reducible repeat (first | refine kN ?_ _ | refine kD ?_ | refine kA ?_ _)); exact BK431.out⟩, ⟨by (with_reducible repeat (first | refine kN ?_ _ | refine kD ?_ | refine kA ?_ _)); exact BK432.out⟩, ⟨by repeat (first | (with_reducible first | exact HB.out | apply bA | apply bN | apply bD | refine bS ?_ GE431.out | refine bS ?_ GE432.out | refine bS ?_ GE438.out) | exact HB.out)⟩⟩
         case n140 =>
          have LMc144 := aS c144
          clear c144
          obtain ⟨y444, hy444⟩ : ∃ y_ : List (S87), y_ = (x5_1 ++ [(⟨3, (rd t433 x7_1), 0, 0, (⟨#[]⟩ : ByteArray), x10_3, (⟨0, (⟨#[]⟩ : ByteArray), ([] : List (S122)), (⟨#[]⟩ : ByteArray), 0, ([] : List Int)⟩ : S43)⟩ : S87)]) := ⟨_, rfl⟩
          replace H : (clerestoryref1_SpanCut.l0 k3 y444 t433 (wrap64 (x7_1 + 1)) l0_0 a0_1 a1_0 a1_1 a1_2 a1_3) = some r := by first | (rw [hy444]; with_reducible exact H) | (have H2_ := (Option.bind_some _ _).symm.trans H; rw [hy444]; with_reducible exact H2_) | (have H2_ := (Option.bind_some _ _).symm.trans H; with_reducible exact H2_) | with_reducible exact H | (rw [hy444]; exact H) | exact H
          have Ny444 := aS hy444
          clear hy444
          have H' := aS H
          clear H
          have hnb145 := NB438_431.out
          have hnc145 := NB431_438.out
          have hnb146 := NB438_432.out
          have hnc146 := NB432_438.out
          obtain ⟨hczL_0, hczL_1, hczL_2, hczL_3, hczL_4, hczL_5, hfzL_0, hfzL_1, hfzL_2, hfzL_3, hfzL_4, hfzL_5⟩ := bk6 BK438.out
          go_wp2_with (first | ((with_reducible refine q17 (b := .append) (xs := #[.tmp 114, .tmp 118]) rfl ?_); at_builtin; refine Kd.S_append k87 (w0 := w) w.heap.size rfl (.tmp 114) (.tmp 118) 54 87 (.agg #[(.int .i64 0), (.int .i64 0), (.int .i64 0), (.int .i64 0), (.string ⟨#[]⟩), (.string ⟨#[]⟩), (.int .i64 0), (.string ⟨#[]⟩), (.slice none 0 0), (.string ⟨#[]⟩), (.int .i64 0), (.slice none 0 0)]) 160 rfl Tryd.underlying54 info87 rfl (by decide) (by omega) u5 x5_1 (⟨3, (rd t433 x7_1), 0, 0, (⟨#[]⟩ : ByteArray), x10_3, (⟨0, (⟨#[]⟩ : ByteArray), ([] : List (S122)), (⟨#[]⟩ : ByteArray), 0, ([] : List Int)⟩ : S43)⟩ : S87) [.int .i64 3, .int .i64 (rd t433 x7_1), .int .i64 0, .int .i64 0, .string (⟨#[]⟩ : ByteArray), .string x10_3, .int .i64 0, .string (⟨#[]⟩ : ByteArray), .slice none 0 0, .string (⟨#[]⟩ : ByteArray), .int .i64 0, .slice none 0 0] (fun k_ => some k_ ≠ (.slice (some ad436) t433.length co48 : Value).ownBlock) (fun _ => False) rfl rfl ?aP (fun k_ hk_ => hk_.elim) ?aF ?aO ?aB ?aS ?aL ?_; (case aP => exact k87_mkM _ _ _ (⟨3, (rd t433 x7_1), 0, 0, (⟨#[]⟩ : ByteArray), x10_3, (⟨0, (⟨#[]⟩ : ByteArray), ([] : List (S122)), (⟨#[]⟩ : ByteArray), 0, ([] : List Int)⟩ : S43)⟩ : S87) (Kd.R_nil _ _ _ _ _) (Kd.R_nil _ _ _ _ _)); (case aB => exact (by repeat (first | (with_reducible first | exact HB.out | apply bA | apply bN | apply bD | refine bS ?_ GE431.out | refine bS ?_ GE432.out | refine bS ?_ GE438.out) | exact HB.out))); (case aF => exact (fun k_ hk => Kd.fresh' (Kd.R_lt (zf HO_6.out)) k_ hk)); (case aO => exact (by (with_reducible repeat (first | apply sA | apply sN | apply sD)); exact Kd.S_mono HO_5.out (fun k_ hk => ⟨hk, fun e_ => e_⟩))); (case aS => exact (q06 (by repeat (first | (with_reducible first | exact HB.out | apply bA | apply bN | apply bD | refine bS ?_ GE431.out | refine bS ?_ GE432.out | refine bS ?_ GE438.out) | exact HB.out)))); (case aL => have := LMc144.out; omega); intro v445 w148 ho hb hg hat; rw [← Ny444.out] at ho; have n0_ := aS (Kd.R_over' (zf HO_6.out) (Kd.S_typed (zg HO_5.out)) (by decide) hg); have n1_ := aS (q0q (g := gb431) (o := .cells #[.slice (some ad437) l0_0.length c0_0, .bool a0_1] 24 (0, 0)) (za BK431.out) hg (Kd.S_ne HO_5.out BK431.out (by decide))); have n2_ := aS (q0q (g := gb432) (o := .cells #[.int .i64 a1_0, .int .i64 a1_1, .int .i64 a1_2, .int .i64 a1_3] 52 (0, 0)) (za BK432.out) hg (Kd.S_ne HO_5.out BK432.out (by decide))); have n3_ := aS (q0q (g := gb438) (o := .cells #[.int .i64 ((q00 l0_0 (rd t433 x7_1)).f0), .string ((q00 l0_0 (rd t433 x7_1)).f1), .slice A437_2 ((q00 l0_0 (rd t433 x7_1)).f2).length c437_2, .string ((q00 l0_0 (rd t433 x7_1)).f3), .int .i64 ((q00 l0_0 (rd t433 x7_1)).f4), .slice A437_5 ((q00 l0_0 (rd t433 x7_1)).f5).length c437_5] 43 (0, 0)) (za BK438.out) hg (Kd.S_ne HO_5.out BK438.out (by decide))); have n4_ := aS (hb); have n5_ := aS (ho); clear HO_6; clear BK431; clear BK432; clear BK438; clear HB; clear HO_5; have HO_6 := n0_; have BK431 := n1_; have BK432 := n2_; have BK438 := n3_; have HB := n4_; have HO446 := n5_; clear n0_ n1_ n2_ n3_ n4_ n5_; clear ho hb hg hat))
          go_roundg k3
          case measure => have := HK1.out; have := HJ46.out; have := HK3.out; omega
          case rel => exact ⟨(y444), (wrap64 (x7_1 + 1)), zi, H', ⟨by have := HK1.out; have := HJ46.out; have := HK3.out; omega⟩, ⟨by (with_reducible repeat (first | apply sA | apply sN | apply sD)); exact HO446.out⟩, ⟨by (with_reducible repeat (first | apply rA | apply rN | apply rD)); exact HO_6.out⟩, ⟨by (with_reducible repeat (first | refine kN ?_ _ | refine kD ?_ | refine kA ?_ _)); exact BK431.out⟩, ⟨by (with_reducible repeat (first | refine kN ?_ _ | refine kD ?_ | refine kA ?_ _)); exact BK432.out⟩, ⟨by repeat (first | (with_reducible first | exact HB.out | apply bA | apply bN | apply bD | refine bS ?_ GE431.out | refine bS ?_ GE432.out | refine bS ?_ GE438.out) | exact HB.out)⟩⟩
   case n9 =>
    obtain rfl := Option.some.inj H
    obtain ⟨Ao149, co149, eo149⟩ := Kd.R_slice HO_6.out
    subst eo149
    go_wp2
    go_ret
    exact ⟨_, by first | rfl | (simp [q05, q04] <;> rfl) | (simp [*, q05, q04] <;> rfl), by (with_reducible repeat (first | apply sA | apply sN | apply sD)); exact Kd.S_mono HO_5.out (fun _ hk => trivial), by repeat (first | (with_reducible first | exact HB.out | apply bA | apply bN | apply bD | refine bS ?_ GE431.out | refine bS ?_ GE432.out) | exact HB.out)⟩
theorem eqA122 (d : Nat) (w : World) (x0 y0 : ByteArray) (x1 y1 : ByteArray) :
 (Op.equalIn (d + 2) 122 (.agg #[.string x0, .string x1]) (.agg #[.string y0, .string y1])).run Tryd.prog w = .ok (x0.toList == y0.toList && (x1.toList == y1.toList)) w := by
 refine eqA_of Tryd.underlying122 (by kernel_rfl) ?_
 refine eqf_cons (by rfl) (by go_simp; rfl) (by go_simp; rfl) (by go_simp) ?_
 exact eqf_last (by rfl) (by go_simp; rfl) (by go_simp; rfl) (by go_simp)
end Go.Proofs.YthjnallbbhnndaaDoor.XSp
namespace Go.Proofs.YthjnallbbhnndaaDoor.XSp
open Go.Proofs.YthjnallbbhnndaaDoor.Short Go.RowKit Go.Proofs.YthjnallbbhnndaaDoorW.PrintWords Go.Proofs.YthjnallbbhnndaaDoorW.PrintLast Go.Proofs.YthjnallbbhnndaaDoorW.PrintMore
attribute [local go_sem] max2_int min2_int max_two min_two q1n q1m max_four min_four   -- for this text's walks alone
set_option linter.unusedVariables false
set_option linter.unusedSimpArgs false
attribute [local go_sem high] eqA122
def clerestoryref1_SameInts.l0 : Nat → List Int → List Int → Int → Option (Bool)
 | 0, _, _, _ => none
 | k + 1, x0, x1, x5 => if x5 < (x0.length : Int) then (if 0 ≤ x5 then (if x5 < (x1.length : Int) then (if (rd x0 x5) = (rd x1 x5) then (clerestoryref1_SameInts.l0 k x0 x1 (wrap64 (x5 + 1))) else (some false)) else (none)) else (none)) else (some true)
def clerestoryref1_SameInts.f (k : Nat) (l0 : List Int) (l1 : List Int) : Option (Bool) := if (l0.length : Int) = (l1.length : Int) then (clerestoryref1_SameInts.l0 k l0 l1 0) else (some false)
set_option maxHeartbeats 8000000 in
set_option maxRecDepth 100000 in
theorem clerestoryref1_SameInts.calls (k : Nat) (A0 : Option Addr) (c0 : Nat) (l0 : List Int) (A1 : Option Addr) (c1 : Nat) (l1 : List Int) (r : Bool) (w : World) (hr0 : Kd.C (Kd.int .i64) w A0 l0.length l0) (hc0 : l0.length ≤ c0) (hr1 : Kd.C (Kd.int .i64) w A1 l1.length l1) (hc1 : l1.length ≤ c1) (h : clerestoryref1_SameInts.f k l0 l1 = some r) :
 Calls Tryd.prog 30 #[.slice A0 l0.length c0, .slice A1 l1.length c1] w fun e w' => e = .returned (.bool r) ∧ Drawn0 w w' := by
 have HR0 := aS hr0
 have HC0 := aS hc0
 clear hr0 hc0
 have HR1 := aS hr1
 have HC1 := aS hc1
 clear hr1 hc1
 have H : (if (l0.length : Int) = (l1.length : Int) then (clerestoryref1_SameInts.l0 k l0 l1 0) else (some false)) = some r := h
 clear h
 by_cases c3 : (l0.length : Int) = (l1.length : Int)
 ·rw [if_pos c3] at H
  have c3b0 : ((l0.length : Int) == (l1.length : Int)) = true := beq_iff_eq.mpr c3
  have c3b1 : ((l0.length : Int) != (l1.length : Int)) = false := bne_eq_false_iff_eq.mpr c3
  have c3b2 : (l0.length == l1.length) = true := by first | simpa using c3 | (simp at c3 ⊢; omega)
  clear c3
  have H' := aS H
  clear H
  go_enter Tryd.func30, Tryd.ntmps30
  go_wp2
  repeat (go_quiet (fail); try go_wp2)
  go_loopg [5] k (fun kq v5 w' => ∃ (x5_1 : Int), v5 = .int .i64 x5_1 ∧ Aside0 (clerestoryref1_SameInts.l0 kq l0 l1 x5_1 = some r) ∧ Aside0 (kq ≤ k) ∧ Drawn0 w w')
  case atStart => exact ⟨(0), zi, H', ⟨Nat.le_refl _⟩, by repeat (first | exact Drawn0.refl _ | apply Drawn0.step)⟩
  case round =>
   clear H'
   try clear c1
   try clear p2
   try clear c3
   try clear c3b0
   try clear c3b1
   try clear c3b2
   obtain ⟨x5_1, rfl, HA, HK1, ⟨m1, rfl⟩⟩ := hrel
   cases gk with
   | zero => exact absurd HA.out (by simp [clerestoryref1_SameInts.l0])
   | succ k1 =>
    have H := HA.out
    clear HA
    simp only [clerestoryref1_SameInts.l0] at H
    by_cases c4 : x5_1 < (l0.length : Int)
    ·rw [if_pos c4] at H
     have c4b0 : decide (x5_1 < (l0.length : Int)) = true := decide_eq_true c4
     clear c4
     by_cases c5 : 0 ≤ x5_1
     ·rw [if_pos c5] at H
      have c5b0 : decide (0 ≤ x5_1) = true := decide_eq_true c5
      clear c5
      by_cases c6 : x5_1 < (l1.length : Int)
      ·rw [if_pos c6] at H
       have c6b0 : decide (x5_1 < (l1.length : Int)) = true := decide_eq_true c6
       clear c6
       by_cases c7 : (rd l0 x5_1) = (rd l1 x5_1)
       ·rw [if_pos c7] at H
        have c7b0 : ((rd l0 x5_1) == (rd l1 x5_1)) = true := beq_iff_eq.mpr c7
        have c7b1 : ((rd l0 x5_1) != (rd l1 x5_1)) = false := bne_eq_false_iff_eq.mpr c7
        clear c7
        have H' := aS H
        clear H
        have p447 : 0 ≤ (x5_1 : Int) := od zb
        have q447 : x5_1 < (l0.length : Int) := od zb
        obtain ⟨ad447, e447, hx447_0⟩ := Kd.at_int HR0.out x5_1 p447 q447
        cases e447
        replace p447 := eq_true p447
        replace q447 := eq_true q447
        have p448 : 0 ≤ (x5_1 : Int) := od zb
        have q448 : x5_1 < (l1.length : Int) := od zb
        obtain ⟨ad448, e448, hx448_0⟩ := Kd.at_int HR1.out x5_1 p448 q448
        cases e448
        replace p448 := eq_true p448
        replace q448 := eq_true q448
        go_wp2
        repeat (go_quiet (fail); try go_wp2)
        go_roundg k1
        case measure => have := HK1.out; omega
        case rel => exact ⟨(wrap64 (x5_1 + 1)), zi, H', ⟨by have := HK1.out; omega⟩, by repeat (first | exact Drawn0.refl _ | apply Drawn0.step)⟩
       ·rw [if_neg c7] at H
        have c7b0 : ((rd l0 x5_1) == (rd l1 x5_1)) = false := beq_eq_false_iff_ne.mpr c7
        have c7b1 : ((rd l0 x5_1) != (rd l1 x5_1)) = true := bne_iff_ne.mpr c7
        obtain rfl := Option.some.inj H
        have p447 : 0 ≤ (x5_1 : Int) := od zb
        have q447 : x5_1 < (l0.length : Int) := od zb
        obtain ⟨ad447, e447, hx447_0⟩ := Kd.at_int HR0.out x5_1 p447 q447
        cases e447
        replace p447 := eq_true p447
        replace q447 := eq_true q447
        have p448 : 0 ≤ (x5_1 : Int) := od zb
        have q448 : x5_1 < (l1.length : Int) := od zb
        obtain ⟨ad448, e448, hx448_0⟩ := Kd.at_int HR1.out x5_1 p448 q448
        cases e448
        replace p448 := eq_true p448
        replace q448 := eq_true q448
        go_wp2
        repeat (go_quiet (fail); try go_wp2)
        go_ret
        exact ⟨by first | rfl | (simp; done) | (simp [*]; done), by repeat (first | exact Drawn0.refl _ | apply Drawn0.step)⟩
      ·rw [if_neg c6] at H
       exact absurd H (by simp)
     ·rw [if_neg c5] at H
      exact absurd H (by simp)
    ·rw [if_neg c4] at H
     have c4b0 : decide (x5_1 < (l0.length : Int)) = false := decide_eq_false c4
     clear c4
     obtain rfl := Option.some.inj H
     go_wp2
     repeat (go_quiet (fail); try go_wp2)
     go_ret
     exact ⟨by first | rfl | (simp; done) | (simp [*]; done), by repeat (first | exact Drawn0.refl _ | apply Drawn0.step)⟩
 ·rw [if_neg c3] at H
  have c3b0 : ((l0.length : Int) == (l1.length : Int)) = false := beq_eq_false_iff_ne.mpr c3
  have c3b1 : ((l0.length : Int) != (l1.length : Int)) = true := bne_iff_ne.mpr c3
  have c3b2 : (l0.length == l1.length) = false := by first | simpa using c3 | (simp at c3 ⊢; omega)
  obtain rfl := Option.some.inj H
  go_enter Tryd.func30, Tryd.ntmps30
  go_wp2
  repeat (go_quiet (fail); try go_wp2)
  go_ret
  exact ⟨by first | rfl | (simp; done) | (simp [*]; done), by repeat (first | exact Drawn0.refl _ | apply Drawn0.step)⟩
def clerestoryref1_SameAttrs.l0 : Nat → List (S122) → List (S122) → Int → Option (Bool)
 | 0, _, _, _ => none
 | k + 1, x0, x1, x5 => if x5 < (x0.length : Int) then (if 0 ≤ x5 then (if x5 < (x1.length : Int) then (if (!((((q0c x0 x5).f0).toList) == (((q0c x1 x5).f0).toList)) || (!((((q0c x0 x5).f1).toList) == (((q0c x1 x5).f1).toList)))) = true then (some false) else (clerestoryref1_SameAttrs.l0 k x0 x1 (wrap64 (x5 + 1)))) else (none)) else (none)) else (some true)
def clerestoryref1_SameAttrs.f (k : Nat) (l0 : List (S122)) (l1 : List (S122)) : Option (Bool) := if (l0.length : Int) = (l1.length : Int) then (clerestoryref1_SameAttrs.l0 k l0 l1 0) else (some false)
set_option maxHeartbeats 8000000 in
set_option maxRecDepth 100000 in
theorem clerestoryref1_SameAttrs.calls (k : Nat) (A0 : Option Addr) (c0 : Nat) (l0 : List (S122)) (A1 : Option Addr) (c1 : Nat) (l1 : List (S122)) (r : Bool) (w : World) (hr0 : Kd.C k122 w A0 l0.length l0) (hc0 : l0.length ≤ c0) (hr1 : Kd.C k122 w A1 l1.length l1) (hc1 : l1.length ≤ c1) (h : clerestoryref1_SameAttrs.f k l0 l1 = some r) :
 Calls Tryd.prog 138 #[.slice A0 l0.length c0, .slice A1 l1.length c1] w fun e w' => e = .returned (.bool r) ∧ Drawn0 w w' := by
 have hu122 := Tryd.underlying122
 have HR0 := aS hr0
 have HC0 := aS hc0
 clear hr0 hc0
 have HR1 := aS hr1
 have HC1 := aS hc1
 clear hr1 hc1
 have H : (if (l0.length : Int) = (l1.length : Int) then (clerestoryref1_SameAttrs.l0 k l0 l1 0) else (some false)) = some r := h
 clear h
 by_cases c3 : (l0.length : Int) = (l1.length : Int)
 ·rw [if_pos c3] at H
  have c3b0 : ((l0.length : Int) == (l1.length : Int)) = true := beq_iff_eq.mpr c3
  have c3b1 : ((l0.length : Int) != (l1.length : Int)) = false := bne_eq_false_iff_eq.mpr c3
  have c3b2 : (l0.length == l1.length) = true := by first | simpa using c3 | (simp at c3 ⊢; omega)
  clear c3
  have H' := aS H
  clear H
  go_enter Tryd.func138, Tryd.ntmps138
  go_wp2
  repeat (go_quiet (fail); try go_wp2)
  go_loopg [5] k (fun kq v5 w' => ∃ (x5_1 : Int), v5 = .int .i64 x5_1 ∧ Aside0 (clerestoryref1_SameAttrs.l0 kq l0 l1 x5_1 = some r) ∧ Aside0 (kq ≤ k) ∧ Drawn0 w w')
  case atStart => exact ⟨(0), zi, H', ⟨Nat.le_refl _⟩, by repeat (first | exact Drawn0.refl _ | apply Drawn0.step)⟩
  case round =>
   clear H'
   try clear c1
   try clear p2
   try clear c3
   try clear c3b0
   try clear c3b1
   try clear c3b2
   obtain ⟨x5_1, rfl, HA, HK1, ⟨m1, rfl⟩⟩ := hrel
   cases gk with
   | zero => exact absurd HA.out (by simp [clerestoryref1_SameAttrs.l0])
   | succ k1 =>
    have H := HA.out
    clear HA
    simp only [clerestoryref1_SameAttrs.l0] at H
    by_cases c4 : x5_1 < (l0.length : Int)
    ·rw [if_pos c4] at H
     have c4b0 : decide (x5_1 < (l0.length : Int)) = true := decide_eq_true c4
     clear c4
     by_cases c5 : 0 ≤ x5_1
     ·rw [if_pos c5] at H
      have c5b0 : decide (0 ≤ x5_1) = true := decide_eq_true c5
      clear c5
      by_cases c6 : x5_1 < (l1.length : Int)
      ·rw [if_pos c6] at H
       have c6b0 : decide (x5_1 < (l1.length : Int)) = true := decide_eq_true c6
       clear c6
       by_cases c7 : (!((((q0c l0 x5_1).f0).toList) == (((q0c l1 x5_1).f0).toList)) || (!((((q0c l0 x5_1).f1).toList) == (((q0c l1 x5_1).f1).toList)))) = true
       ·rw [if_pos c7] at H
        have c7b0 : (!((((q0c l0 x5_1).f0).toList) == (((q0c l1 x5_1).f0).toList)) || (!((((q0c l0 x5_1).f1).toList) == (((q0c l1 x5_1).f1).toList)))) = true := c7
        clear c7
        obtain rfl := Option.some.inj H
        have p449 : 0 ≤ (x5_1 : Int) := od zb
        have q449 : x5_1 < (l0.length : Int) := od zb
        obtain ⟨ad449, e449, hx449_0, hx449_1⟩ := at_T122 HR0.out x5_1 p449 q449
        cases e449
        replace p449 := eq_true p449
        replace q449 := eq_true q449
        have p450 : 0 ≤ (x5_1 : Int) := od zb
        have q450 : x5_1 < (l1.length : Int) := od zb
        obtain ⟨ad450, e450, hx450_0, hx450_1⟩ := at_T122 HR1.out x5_1 p450 q450
        cases e450
        replace p450 := eq_true p450
        replace q450 := eq_true q450
        go_wp2
        repeat (go_quiet (fail); try go_wp2)
        go_ret
        exact ⟨by first | rfl | (simp; done) | (simp [*]; done), by repeat (first | exact Drawn0.refl _ | apply Drawn0.step)⟩
       ·rw [if_neg c7] at H
        have c7b0 : (!((((q0c l0 x5_1).f0).toList) == (((q0c l1 x5_1).f0).toList)) || (!((((q0c l0 x5_1).f1).toList) == (((q0c l1 x5_1).f1).toList)))) = false := by simpa using c7
        clear c7
        have H' := aS H
        clear H
        have p449 : 0 ≤ (x5_1 : Int) := od zb
        have q449 : x5_1 < (l0.length : Int) := od zb
        obtain ⟨ad449, e449, hx449_0, hx449_1⟩ := at_T122 HR0.out x5_1 p449 q449
        cases e449
        replace p449 := eq_true p449
        replace q449 := eq_true q449
        have p450 : 0 ≤ (x5_1 : Int) := od zb
        have q450 : x5_1 < (l1.length : Int) := od zb
        obtain ⟨ad450, e450, hx450_0, hx450_1⟩ := at_T122 HR1.out x5_1 p450 q450
        cases e450
        replace p450 := eq_true p450
        replace q450 := eq_true q450
        go_wp2
        repeat (go_quiet (fail); try go_wp2)
        go_roundg k1
        case measure => have := HK1.out; omega
        case rel => exact ⟨(wrap64 (x5_1 + 1)), zi, H', ⟨by have := HK1.out; omega⟩, by repeat (first | exact Drawn0.refl _ | apply Drawn0.step)⟩
      ·rw [if_neg c6] at H
       exact absurd H (by simp)
     ·rw [if_neg c5] at H
      exact absurd H (by simp)
    ·rw [if_neg c4] at H
     have c4b0 : decide (x5_1 < (l0.length : Int)) = false := decide_eq_false c4
     clear c4
     obtain rfl := Option.some.inj H
     go_wp2
     repeat (go_quiet (fail); try go_wp2)
     go_ret
     exact ⟨by first | rfl | (simp; done) | (simp [*]; done), by repeat (first | exact Drawn0.refl _ | apply Drawn0.step)⟩
 ·rw [if_neg c3] at H
  have c3b0 : ((l0.length : Int) == (l1.length : Int)) = false := beq_eq_false_iff_ne.mpr c3
  have c3b1 : ((l0.length : Int) != (l1.length : Int)) = true := bne_iff_ne.mpr c3
  have c3b2 : (l0.length == l1.length) = false := by first | simpa using c3 | (simp at c3 ⊢; omega)
  obtain rfl := Option.some.inj H
  go_enter Tryd.func138, Tryd.ntmps138
  go_wp2
  repeat (go_quiet (fail); try go_wp2)
  go_ret
  exact ⟨by first | rfl | (simp; done) | (simp [*]; done), by repeat (first | exact Drawn0.refl _ | apply Drawn0.step)⟩
def clerestoryref1_SameNode.f (k : Nat) (a0_0 : Int) (a0_1 : ByteArray) (l0_2 : List (S122)) (a0_3 : ByteArray) (a0_4 : Int) (l0_5 : List Int) (a1_0 : Int) (a1_1 : ByteArray) (l1_2 : List (S122)) (a1_3 : ByteArray) (a1_4 : Int) (l1_5 : List Int) : Option (Bool) := if a0_0 = a1_0 then (if a0_1.toList = a1_1.toList then (if a0_3.toList = a1_3.toList then (if a0_4 = a1_4 then ((clerestoryref1_SameAttrs.f k l0_2 l1_2).bind fun t453 => (if t453 = true then ((clerestoryref1_SameInts.f k l0_5 l1_5).bind fun t454 => (some t454)) else (none))) else (none)) else (none)) else (none)) else (none)
set_option maxHeartbeats 8000000 in
set_option maxRecDepth 100000 in
theorem clerestoryref1_SameNode.calls (k : Nat) (a0_0 : Int) (a0_1 : ByteArray) (A0_2 : Option Addr) (c0_2 : Nat) (l0_2 : List (S122)) (a0_3 : ByteArray) (a0_4 : Int) (A0_5 : Option Addr) (c0_5 : Nat) (l0_5 : List Int) (a1_0 : Int) (a1_1 : ByteArray) (A1_2 : Option Addr) (c1_2 : Nat) (l1_2 : List (S122)) (a1_3 : ByteArray) (a1_4 : Int) (A1_5 : Option Addr) (c1_5 : Nat) (l1_5 : List Int) (r : Bool) (w : World) (hr0_2 : Kd.C k122 w A0_2 l0_2.length l0_2) (hc0_2 : l0_2.length ≤ c0_2) (hr0_5 : Kd.C (Kd.int .i64) w A0_5 l0_5.length l0_5) (hc0_5 : l0_5.length ≤ c0_5) (hr1_2 : Kd.C k122 w A1_2 l1_2.length l1_2) (hc1_2 : l1_2.length ≤ c1_2) (hr1_5 : Kd.C (Kd.int .i64) w A1_5 l1_5.length l1_5) (hc1_5 : l1_5.length ≤ c1_5) (h : clerestoryref1_SameNode.f k a0_0 a0_1 l0_2 a0_3 a0_4 l0_5 a1_0 a1_1 l1_2 a1_3 a1_4 l1_5 = some r) :
 Calls Tryd.prog 103 #[.agg #[.int .i64 a0_0, .string a0_1, .slice A0_2 l0_2.length c0_2, .string a0_3, .int .i64 a0_4, .slice A0_5 l0_5.length c0_5], .agg #[.int .i64 a1_0, .string a1_1, .slice A1_2 l1_2.length c1_2, .string a1_3, .int .i64 a1_4, .slice A1_5 l1_5.length c1_5]] w fun e w' => e = .returned (.bool r) ∧ Below w.heap.size w w' := by
 have hu43 := Tryd.underlying43
 have HR0_2 := aS hr0_2
 have HC0_2 := aS hc0_2
 clear hr0_2 hc0_2
 have HR0_5 := aS hr0_5
 have HC0_5 := aS hc0_5
 clear hr0_5 hc0_5
 have HR1_2 := aS hr1_2
 have HC1_2 := aS hc1_2
 clear hr1_2 hc1_2
 have HR1_5 := aS hr1_5
 have HC1_5 := aS hc1_5
 clear hr1_5 hc1_5
 have HB := aS (Below.refl w.heap.size w)
 have H := h; clear h; unfold clerestoryref1_SameNode.f at H
 refine iE H ?p3 ?n3 <;> clear H
 case' p3 => intro c3b0 c3b1 H; refine iE H ?p4 ?n4 <;> clear H
 case' p4 => intro c4b0 c4b1 H; refine iE H ?p5 ?n5 <;> clear H
 case' p5 => intro c5b0 c5b1 H; refine iE H ?p6 ?n6 <;> clear H
 case' p6 => intro c6b0 c6b1 H; replace H := iB H; obtain ⟨t453, A7, H⟩ := H; refine iV H ?p8 ?n8 <;> clear H
 case' p8 => intro c8 H; subst c8
 case' n8 => intro c8 H; subst c8
 case' n6 => intro c6 c6b0 c6b1 H
 case' n5 => intro c5 c5b0 c5b1 H
 case' n4 => intro c4 c4b0 c4b1 H
 case' n3 => intro c3 c3b0 c3b1 H
 case p8 =>
  replace H := iB H
  obtain ⟨t454, A9, H⟩ := H
  obtain rfl := Option.some.inj H
  go_enter Tryd.func103, Tryd.ntmps103
  go_wp2_with (first | ((with_reducible refine q07 (N := 2) rfl ?_); refine box0 rfl (N := 2) rfl (cs := #[.int .i64 a0_0, .string a0_1, .slice A0_2 l0_2.length c0_2, .string a0_3, .int .i64 a0_4, .slice A0_5 l0_5.length c0_5]) (t := 43) zh (z7 HB.out) ?_; clear HB; intro gb451 w10 BK451 GW451 HB; have GE451 := GW451) | ((with_reducible refine q07 (N := 3) rfl ?_); refine q0j ?hg (N := 3) ?hd (cs := #[.int .i64 a1_0, .string a1_1, .slice A1_2 l1_2.length c1_2, .string a1_3, .int .i64 a1_4, .slice A1_5 l1_5.length c1_5]) (t := 43) ?hr ?_; (case hd => rfl); (case hg => rfl); (case hr => first | (go_simp; done) | (go_simp; rfl)); intro gb452 hg w11 hbox hb; have n0_ := aS (q01 (g := gb451) (o := .cells #[.int .i64 a0_0, .string a0_1, .slice A0_2 l0_2.length c0_2, .string a0_3, .int .i64 a0_4, .slice A0_5 l0_5.length c0_5] 43 (0, 0)) (za BK451.out) hb); have n1_ := aS (q02 (z6 HB.out GE451.out) hb); have n2_ := aS (hbox); have n3_ := aS ((by rw [hg]; exact (q06 (z6 HB.out GE451.out)) : w.heap.size ≤ gb452)); have n4_ := aS ((by rw [hg]; exact (q06 (z6 HB.out GE451.out)) : w.heap.size ≤ gb452)); have n5_ := aS ((by rw [hg]; exact Nat.ne_of_lt (q0i (g := gb451) (o := .cells #[.int .i64 a0_0, .string a0_1, .slice A0_2 l0_2.length c0_2, .string a0_3, .int .i64 a0_4, .slice A0_5 l0_5.length c0_5] 43 (0, 0)) (za BK451.out)) : gb451 ≠ gb452)); have n6_ := aS ((by rw [hg]; exact Nat.ne_of_gt (q0i (g := gb451) (o := .cells #[.int .i64 a0_0, .string a0_1, .slice A0_2 l0_2.length c0_2, .string a0_3, .int .i64 a0_4, .slice A0_5 l0_5.length c0_5] 43 (0, 0)) (za BK451.out)) : gb452 ≠ gb451)); clear BK451; clear HB; have BK451 := n0_; have HB := n1_; have BK452 := n2_; have GW452 := n3_; have GE452 := n4_; have NB451_452 := n5_; have NB452_451 := n6_; clear n0_ n1_ n2_ n3_ n4_ n5_ n6_; clear hb hbox hg; have hnb12 := NB451_452.out; have hnc12 := NB452_451.out; obtain ⟨hczL_0, hczL_1, hczL_2, hczL_3, hczL_4, hczL_5, hfzL_0, hfzL_1, hfzL_2, hfzL_3, hfzL_4, hfzL_5⟩ := bk6 BK451.out; obtain ⟨hczL_0, hczL_1, hczL_2, hczL_3, hczL_4, hczL_5, hfzL_0, hfzL_1, hfzL_2, hfzL_3, hfzL_4, hfzL_5⟩ := bk6 BK452.out) | (go_at_call 138; (with_reducible refine (clerestoryref1_SameAttrs.calls k _ _ l0_2 _ _ l1_2 true _ ?side1 ?side2 ?side3 ?side4 A7.out).mono ?_); (case side1 => repeat (first | exact (Kd.C_below HR0_2.out HB.out) | (with_reducible refine cA ?_ _) | (with_reducible refine cN ?_ _) | (with_reducible refine cD ?_))); (case side2 => exact HC0_2.out); (case side3 => repeat (first | exact (Kd.C_below HR1_2.out HB.out) | (with_reducible refine cA ?_ _) | (with_reducible refine cN ?_ _) | (with_reducible refine cD ?_))); (case side4 => exact HC1_2.out); rintro e w' ⟨rfl, ⟨nd, rfl⟩⟩) | (go_at_call 30; (with_reducible refine (clerestoryref1_SameInts.calls k _ _ l0_5 _ _ l1_5 t454 _ ?side1 ?side2 ?side3 ?side4 A9.out).mono ?_); (case side1 => repeat (first | exact (Kd.C_below HR0_5.out (by repeat (first | (with_reducible first | exact HB.out | apply bA | apply bN | apply bD | refine bS ?_ GE451.out | refine bS ?_ GE452.out) | exact HB.out))) | (with_reducible refine cA ?_ _) | (with_reducible refine cN ?_ _) | (with_reducible refine cD ?_))); (case side2 => exact HC0_5.out); (case side3 => repeat (first | exact (Kd.C_below HR1_5.out (by repeat (first | (with_reducible first | exact HB.out | apply bA | apply bN | apply bD | refine bS ?_ GE451.out | refine bS ?_ GE452.out) | exact HB.out))) | (with_reducible refine cA ?_ _) | (with_reducible refine cN ?_ _) | (with_reducible refine cD ?_))); (case side4 => exact HC1_5.out); rintro e w' ⟨rfl, ⟨nd, rfl⟩⟩))
  go_ret
  exact ⟨by first | rfl | (simp [q05, q04] <;> rfl) | (simp [*, q05, q04] <;> rfl), by repeat (first | (with_reducible first | exact HB.out | apply bA | apply bN | apply bD | refine bS ?_ GE451.out | refine bS ?_ GE452.out) | exact HB.out)⟩
 case n8 => exact absurd H (by simp)
 case n6 => exact absurd H (by simp)
 case n5 => exact absurd H (by simp)
 case n4 => exact absurd H (by simp)
 case n3 => exact absurd H (by simp)
def clerestoryref1_SameEdit.f (k : Nat) (a0_0 : Int) (a0_1 : Int) (a0_2 : Int) (a0_3 : Int) (a0_4 : ByteArray) (a0_5 : ByteArray) (a0_6 : Int) (a0_7 : ByteArray) (l0_8 : List (S122)) (a0_9 : ByteArray) (a0_10 : Int) (l0_11 : List Int) (a1_0 : Int) (a1_1 : Int) (a1_2 : Int) (a1_3 : Int) (a1_4 : ByteArray) (a1_5 : ByteArray) (a1_6 : Int) (a1_7 : ByteArray) (l1_8 : List (S122)) (a1_9 : ByteArray) (a1_10 : Int) (l1_11 : List Int) : Option (Bool) := if a0_0 = a1_0 then (if a0_1 = a1_1 then (if a0_2 = a1_2 then (if a0_3 = a1_3 then (if a0_4.toList = a1_4.toList then (if a0_5.toList = a1_5.toList then ((clerestoryref1_SameNode.f k a0_6 a0_7 l0_8 a0_9 a0_10 l0_11 a1_6 a1_7 l1_8 a1_9 a1_10 l1_11).bind fun t457 => (some t457)) else (none)) else (none)) else (none)) else (none)) else (none)) else (none)
set_option maxHeartbeats 8000000 in
set_option maxRecDepth 100000 in
theorem clerestoryref1_SameEdit.calls (k : Nat) (a0_0 : Int) (a0_1 : Int) (a0_2 : Int) (a0_3 : Int) (a0_4 : ByteArray) (a0_5 : ByteArray) (a0_6 : Int) (a0_7 : ByteArray) (A0_8 : Option Addr) (c0_8 : Nat) (l0_8 : List (S122)) (a0_9 : ByteArray) (a0_10 : Int) (A0_11 : Option Addr) (c0_11 : Nat) (l0_11 : List Int) (a1_0 : Int) (a1_1 : Int) (a1_2 : Int) (a1_3 : Int) (a1_4 : ByteArray) (a1_5 : ByteArray) (a1_6 : Int) (a1_7 : ByteArray) (A1_8 : Option Addr) (c1_8 : Nat) (l1_8 : List (S122)) (a1_9 : ByteArray) (a1_10 : Int) (A1_11 : Option Addr) (c1_11 : Nat) (l1_11 : List Int) (r : Bool) (w : World) (hr0_8 : Kd.C k122 w A0_8 l0_8.length l0_8) (hc0_8 : l0_8.length ≤ c0_8) (hr0_11 : Kd.C (Kd.int .i64) w A0_11 l0_11.length l0_11) (hc0_11 : l0_11.length ≤ c0_11) (hr1_8 : Kd.C k122 w A1_8 l1_8.length l1_8) (hc1_8 : l1_8.length ≤ c1_8) (hr1_11 : Kd.C (Kd.int .i64) w A1_11 l1_11.length l1_11) (hc1_11 : l1_11.length ≤ c1_11) (h : clerestoryref1_SameEdit.f k a0_0 a0_1 a0_2 a0_3 a0_4 a0_5 a0_6 a0_7 l0_8 a0_9 a0_10 l0_11 a1_0 a1_1 a1_2 a1_3 a1_4 a1_5 a1_6 a1_7 l1_8 a1_9 a1_10 l1_11 = some r) :
 Calls Tryd.prog 86 #[.agg #[.int .i64 a0_0, .int .i64 a0_1, .int .i64 a0_2, .int .i64 a0_3, .string a0_4, .string a0_5, .int .i64 a0_6, .string a0_7, .slice A0_8 l0_8.length c0_8, .string a0_9, .int .i64 a0_10, .slice A0_11 l0_11.length c0_11], .agg #[.int .i64 a1_0, .int .i64 a1_1, .int .i64 a1_2, .int .i64 a1_3, .string a1_4, .string a1_5, .int .i64 a1_6, .string a1_7, .slice A1_8 l1_8.length c1_8, .string a1_9, .int .i64 a1_10, .slice A1_11 l1_11.length c1_11]] w fun e w' => e = .returned (.bool r) ∧ Below w.heap.size w w' := by
 have hu87 := Tryd.underlying87
 have hu43 := Tryd.underlying43
 have HR0_8 := aS hr0_8
 have HC0_8 := aS hc0_8
 clear hr0_8 hc0_8
 have HR0_11 := aS hr0_11
 have HC0_11 := aS hc0_11
 clear hr0_11 hc0_11
 have HR1_8 := aS hr1_8
 have HC1_8 := aS hc1_8
 clear hr1_8 hc1_8
 have HR1_11 := aS hr1_11
 have HC1_11 := aS hc1_11
 clear hr1_11 hc1_11
 have HB := aS (Below.refl w.heap.size w)
 have H := h; clear h; unfold clerestoryref1_SameEdit.f at H
 refine iE H ?p3 ?n3 <;> clear H
 case' p3 => intro c3b0 c3b1 H; refine iE H ?p4 ?n4 <;> clear H
 case' p4 => intro c4b0 c4b1 H; refine iE H ?p5 ?n5 <;> clear H
 case' p5 => intro c5b0 c5b1 H; refine iE H ?p6 ?n6 <;> clear H
 case' p6 => intro c6b0 c6b1 H; refine iE H ?p7 ?n7 <;> clear H
 case' p7 => intro c7b0 c7b1 H; refine iE H ?p8 ?n8 <;> clear H
 case' p8 => intro c8b0 c8b1 H
 case' n8 => intro c8 c8b0 c8b1 H
 case' n7 => intro c7 c7b0 c7b1 H
 case' n6 => intro c6 c6b0 c6b1 H
 case' n5 => intro c5 c5b0 c5b1 H
 case' n4 => intro c4 c4b0 c4b1 H
 case' n3 => intro c3 c3b0 c3b1 H
 case p8 =>
  replace H := iB H
  obtain ⟨t457, A9, H⟩ := H
  obtain rfl := Option.some.inj H
  go_enter Tryd.func86, Tryd.ntmps86
  go_wp2_with (first | ((with_reducible refine q07 (N := 2) rfl ?_); refine q0j ?hg (N := 2) ?hd (cs := #[.int .i64 a0_0, .int .i64 a0_1, .int .i64 a0_2, .int .i64 a0_3, .string a0_4, .string a0_5, .int .i64 a0_6, .string a0_7, .slice A0_8 l0_8.length c0_8, .string a0_9, .int .i64 a0_10, .slice A0_11 l0_11.length c0_11]) (t := 87) ?hr ?_; (case hd => rfl); (case hg => rfl); (case hr => first | (go_simp; done) | (go_simp; rfl)); intro gb455 hg w10 hbox hb; have n0_ := aS (q02 (z7 HB.out) hb); have n1_ := aS (hbox); have n2_ := aS ((by rw [hg]; exact (q06 (z7 HB.out)) : w.heap.size ≤ gb455)); have n3_ := aS ((by rw [hg]; exact (q06 (z7 HB.out)) : w.heap.size ≤ gb455)); clear HB; have HB := n0_; have BK455 := n1_; have GW455 := n2_; have GE455 := n3_; clear n0_ n1_ n2_ n3_; clear hb hbox hg) | ((with_reducible refine q07 (N := 3) rfl ?_); refine q0j ?hg (N := 3) ?hd (cs := #[.int .i64 a1_0, .int .i64 a1_1, .int .i64 a1_2, .int .i64 a1_3, .string a1_4, .string a1_5, .int .i64 a1_6, .string a1_7, .slice A1_8 l1_8.length c1_8, .string a1_9, .int .i64 a1_10, .slice A1_11 l1_11.length c1_11]) (t := 87) ?hr ?_; (case hd => rfl); (case hg => rfl); (case hr => first | (go_simp; done) | (go_simp; rfl)); intro gb456 hg w11 hbox hb; have n0_ := aS (q01 (g := gb455) (o := .cells #[.int .i64 a0_0, .int .i64 a0_1, .int .i64 a0_2, .int .i64 a0_3, .string a0_4, .string a0_5, .int .i64 a0_6, .string a0_7, .slice A0_8 l0_8.length c0_8, .string a0_9, .int .i64 a0_10, .slice A0_11 l0_11.length c0_11] 87 (0, 0)) (za BK455.out) hb); have n1_ := aS (q02 (z6 HB.out GE455.out) hb); have n2_ := aS (hbox); have n3_ := aS ((by rw [hg]; exact (q06 (z6 HB.out GE455.out)) : w.heap.size ≤ gb456)); have n4_ := aS ((by rw [hg]; exact (q06 (z6 HB.out GE455.out)) : w.heap.size ≤ gb456)); have n5_ := aS ((by rw [hg]; exact Nat.ne_of_lt (q0i (g := gb455) (o := .cells #[.int .i64 a0_0, .int .i64 a0_1, .int .i64 a0_2, .int .i64 a0_3, .string a0_4, .string a0_5, .int .i64 a0_6, .string a0_7, .slice A0_8 l0_8.length c0_8, .string a0_9, .int .i64 a0_10, .slice A0_11 l0_11.length c0_11] 87 (0, 0)) (za BK455.out)) : gb455 ≠ gb456)); have n6_ := aS ((by rw [hg]; exact Nat.ne_of_gt (q0i (g := gb455) (o := .cells #[.int .i64 a0_0, .int .i64 a0_1, .int .i64 a0_2, .int .i64 a0_3, .string a0_4, .string a0_5, .int .i64 a0_6, .string a0_7, .slice A0_8 l0_8.length c0_8, .string a0_9, .int .i64 a0_10, .slice A0_11 l0_11.length c0_11] 87 (0, 0)) (za BK455.out)) : gb456 ≠ gb455)); clear BK455; clear HB; have BK455 := n0_; have HB := n1_; have BK456 := n2_; have GW456 := n3_; have GE456 := n4_; have NB455_456 := n5_; have NB456_455 := n6_; clear n0_ n1_ n2_ n3_ n4_ n5_ n6_; clear hb hbox hg; have hnb12 := NB455_456.out; have hnc12 := NB456_455.out; have hczL_0 : w11.cell? ⟨gb455, 0, none⟩ = some (.int .i64 a0_0) := (q03 BK455.out 0).trans rfl; have hczL_1 : w11.cell? ⟨gb455, 1, none⟩ = some (.int .i64 a0_1) := (q03 BK455.out 1).trans rfl; have hczL_2 : w11.cell? ⟨gb455, 2, none⟩ = some (.int .i64 a0_2) := (q03 BK455.out 2).trans rfl; have hczL_3 : w11.cell? ⟨gb455, 3, none⟩ = some (.int .i64 a0_3) := (q03 BK455.out 3).trans rfl; have hczL_4 : w11.cell? ⟨gb455, 4, none⟩ = some (.string a0_4) := (q03 BK455.out 4).trans rfl; have hczL_5 : w11.cell? ⟨gb455, 5, none⟩ = some (.string a0_5) := (q03 BK455.out 5).trans rfl; have hczL_6 : w11.cell? ⟨gb455, 6, none⟩ = some (.int .i64 a0_6) := (q03 BK455.out 6).trans rfl; have hczL_7 : w11.cell? ⟨gb455, 7, none⟩ = some (.string a0_7) := (q03 BK455.out 7).trans rfl; have hczL_8 : w11.cell? ⟨gb455, 8, none⟩ = some (.slice A0_8 l0_8.length c0_8) := (q03 BK455.out 8).trans rfl; have hczL_9 : w11.cell? ⟨gb455, 9, none⟩ = some (.string a0_9) := (q03 BK455.out 9).trans rfl; have hczL_10 : w11.cell? ⟨gb455, 10, none⟩ = some (.int .i64 a0_10) := (q03 BK455.out 10).trans rfl; have hczL_11 : w11.cell? ⟨gb455, 11, none⟩ = some (.slice A0_11 l0_11.length c0_11) := (q03 BK455.out 11).trans rfl; have hfzL_0 := q0k BK455.out 0; have hfzL_1 := q0k BK455.out 1; have hfzL_2 := q0k BK455.out 2; have hfzL_3 := q0k BK455.out 3; have hfzL_4 := q0k BK455.out 4; have hfzL_5 := q0k BK455.out 5; have hfzL_6 := q0k BK455.out 6; have hfzL_7 := q0k BK455.out 7; have hfzL_8 := q0k BK455.out 8; have hfzL_9 := q0k BK455.out 9; have hfzL_10 := q0k BK455.out 10; have hfzL_11 := q0k BK455.out 11; have hczL_0 : w11.cell? ⟨gb456, 0, none⟩ = some (.int .i64 a1_0) := (q03 BK456.out 0).trans rfl; have hczL_1 : w11.cell? ⟨gb456, 1, none⟩ = some (.int .i64 a1_1) := (q03 BK456.out 1).trans rfl; have hczL_2 : w11.cell? ⟨gb456, 2, none⟩ = some (.int .i64 a1_2) := (q03 BK456.out 2).trans rfl; have hczL_3 : w11.cell? ⟨gb456, 3, none⟩ = some (.int .i64 a1_3) := (q03 BK456.out 3).trans rfl; have hczL_4 : w11.cell? ⟨gb456, 4, none⟩ = some (.string a1_4) := (q03 BK456.out 4).trans rfl; have hczL_5 : w11.cell? ⟨gb456, 5, none⟩ = some (.string a1_5) := (q03 BK456.out 5).trans rfl; have hczL_6 : w11.cell? ⟨gb456, 6, none⟩ = some (.int .i64 a1_6) := (q03 BK456.out 6).trans rfl; have hczL_7 : w11.cell? ⟨gb456, 7, none⟩ = some (.string a1_7) := (q03 BK456.out 7).trans rfl; have hczL_8 : w11.cell? ⟨gb456, 8, none⟩ = some (.slice A1_8 l1_8.length c1_8) := (q03 BK456.out 8).trans rfl; have hczL_9 : w11.cell? ⟨gb456, 9, none⟩ = some (.string a1_9) := (q03 BK456.out 9).trans rfl; have hczL_10 : w11.cell? ⟨gb456, 10, none⟩ = some (.int .i64 a1_10) := (q03 BK456.out 10).trans rfl; have hczL_11 : w11.cell? ⟨gb456, 11, none⟩ = some (.slice A1_11 l1_11.length c1_11) := (q03 BK456.out 11).trans rfl; have hfzL_0 := q0k BK456.out 0; have hfzL_1 := q0k BK456.out 1; have hfzL_2 := q0k BK456.out 2; have hfzL_3 := q0k BK456.out 3; have hfzL_4 := q0k BK456.out 4; have hfzL_5 := q0k BK456.out 5; have hfzL_6 := q0k BK456.out 6; have hfzL_7 := q0k BK456.out 7; have hfzL_8 := q0k BK456.out 8; have hfzL_9 := q0k BK456.out 9; have hfzL_10 := q0k BK456.out 10; have hfzL_11 := q0k BK456.out 11) | (go_at_call 103; (with_reducible refine (clerestoryref1_SameNode.calls k a0_6 a0_7 _ _ l0_8 a0_9 a0_10 _ _ l0_11 a1_6 a1_7 _ _ l1_8 a1_9 a1_10 _ _ l1_11 t457 _ ?side1 ?side2 ?side3 ?side4 ?side5 ?side6 ?side7 ?side8 A9.out).mono ?_); (case side1 => repeat (first | exact (Kd.C_below HR0_8.out HB.out) | (with_reducible refine cA ?_ _) | (with_reducible refine cN ?_ _) | (with_reducible refine cD ?_))); (case side2 => exact HC0_8.out); (case side3 => repeat (first | exact (Kd.C_below HR0_11.out HB.out) | (with_reducible refine cA ?_ _) | (with_reducible refine cN ?_ _) | (with_reducible refine cD ?_))); (case side4 => exact HC0_11.out); (case side5 => repeat (first | exact (Kd.C_below HR1_8.out HB.out) | (with_reducible refine cA ?_ _) | (with_reducible refine cN ?_ _) | (with_reducible refine cD ?_))); (case side6 => exact HC1_8.out); (case side7 => repeat (first | exact (Kd.C_below HR1_11.out HB.out) | (with_reducible refine cA ?_ _) | (with_reducible refine cN ?_ _) | (with_reducible refine cD ?_))); (case side8 => exact HC1_11.out); rintro e w15 ⟨rfl, hb⟩; have n0_ := aS (q01 (g := gb455) (o := .cells #[.int .i64 a0_0, .int .i64 a0_1, .int .i64 a0_2, .int .i64 a0_3, .string a0_4, .string a0_5, .int .i64 a0_6, .string a0_7, .slice A0_8 l0_8.length c0_8, .string a0_9, .int .i64 a0_10, .slice A0_11 l0_11.length c0_11] 87 (0, 0)) (za BK455.out) hb); have n1_ := aS (q01 (g := gb456) (o := .cells #[.int .i64 a1_0, .int .i64 a1_1, .int .i64 a1_2, .int .i64 a1_3, .string a1_4, .string a1_5, .int .i64 a1_6, .string a1_7, .slice A1_8 l1_8.length c1_8, .string a1_9, .int .i64 a1_10, .slice A1_11 l1_11.length c1_11] 87 (0, 0)) (za BK456.out) hb); have n2_ := aS (q02 (by repeat (first | (with_reducible first | exact HB.out | apply bA | apply bN | apply bD | refine bS ?_ GE455.out | refine bS ?_ GE456.out) | exact HB.out)) hb); clear BK455; clear BK456; clear HB; have BK455 := n0_; have BK456 := n1_; have HB := n2_; clear n0_ n1_ n2_; (try clear hb); (try clear hb2); (try clear hk); (try clear hi)))
  go_ret
  exact ⟨by first | rfl | (simp [q05, q04] <;> rfl) | (simp [*, q05, q04] <;> rfl), by repeat (first | (with_reducible first | exact HB.out | apply bA | apply bN | apply bD | refine bS ?_ GE455.out | refine bS ?_ GE456.out) | exact HB.out)⟩
 case n8 => exact absurd H (by simp)
 case n7 => exact absurd H (by simp)
 case n6 => exact absurd H (by simp)
 case n5 => exact absurd H (by simp)
 case n4 => exact absurd H (by simp)
 case n3 => exact absurd H (by simp)
end Go.Proofs.YthjnallbbhnndaaDoor.XSp
namespace Go.Proofs.YthjnallbbhnndaaDoor.XSp
open Go.Proofs.YthjnallbbhnndaaDoor.Short Go.RowKit Go.Proofs.YthjnallbbhnndaaDoorW.PrintWords Go.Proofs.YthjnallbbhnndaaDoorW.PrintLast Go.Proofs.YthjnallbbhnndaaDoorW.PrintMore
attribute [local go_sem] max2_int min2_int max_two min_two q1n q1m max_four min_four   -- for this text's walks alone
set_option linter.unusedVariables false
set_option linter.unusedSimpArgs false
def clerestoryref1_SameEdits.l0 : Nat → List (S87) → List (S87) → Int → Option (Bool)
 | 0, _, _, _ => none
 | k + 1, x0, x1, x5 => if x5 < (x0.length : Int) then (if 0 ≤ x5 then (if x5 < (x1.length : Int) then ((clerestoryref1_SameEdit.f k ((q0g x0 x5).f0) ((q0g x0 x5).f1) ((q0g x0 x5).f2) ((q0g x0 x5).f3) ((q0g x0 x5).f4) ((q0g x0 x5).f5) ((q0g x0 x5).f6.f0) ((q0g x0 x5).f6.f1) ((q0g x0 x5).f6.f2) ((q0g x0 x5).f6.f3) ((q0g x0 x5).f6.f4) ((q0g x0 x5).f6.f5) ((q0g x1 x5).f0) ((q0g x1 x5).f1) ((q0g x1 x5).f2) ((q0g x1 x5).f3) ((q0g x1 x5).f4) ((q0g x1 x5).f5) ((q0g x1 x5).f6.f0) ((q0g x1 x5).f6.f1) ((q0g x1 x5).f6.f2) ((q0g x1 x5).f6.f3) ((q0g x1 x5).f6.f4) ((q0g x1 x5).f6.f5)).bind fun t459 => (if t459 = true then (clerestoryref1_SameEdits.l0 k x0 x1 (wrap64 (x5 + 1))) else (none))) else (none)) else (none)) else (some true)
def clerestoryref1_SameEdits.f (k : Nat) (l0 : List (S87)) (l1 : List (S87)) : Option (Bool) := if (l0.length : Int) = (l1.length : Int) then (clerestoryref1_SameEdits.l0 k l0 l1 0) else (none)
def clerestoryref1_SameEdits.T6 : Bool × List (List Nat × List Nat) := (true, [([], []), ([], []), ([0, 1], [0, 1]), ([2], [2]), ([], []), ([], []), ([4, 5], [4, 5]), ([6], [6]), ([3, 7], [3, 7]), ([8], [8])])
def clerestoryref1_SameEdits.B6 : List Nat := [0, 0, 3, 7, 0, 0, 48, 112, 255, 511]
theorem clerestoryref1_SameEdits.tab6 : rtab .any (opsOf Tryd.f36 6) = clerestoryref1_SameEdits.T6 := by kernel_rfl
theorem clerestoryref1_SameEdits.bits6 : waitsOk clerestoryref1_SameEdits.T6.2 clerestoryref1_SameEdits.B6 = true := by kernel_rfl
set_option maxHeartbeats 8000000 in
set_option maxRecDepth 100000 in
theorem clerestoryref1_SameEdits.calls (k : Nat) (A0 : Option Addr) (c0 : Nat) (l0 : List (S87)) (A1 : Option Addr) (c1 : Nat) (l1 : List (S87)) (r : Bool) (w : World) (hr0 : Kd.C k87 w A0 l0.length l0) (hc0 : l0.length ≤ c0) (hr1 : Kd.C k87 w A1 l1.length l1) (hc1 : l1.length ≤ c1) (h : clerestoryref1_SameEdits.f k l0 l1 = some r) :
 Calls Tryd.prog 36 #[.slice A0 l0.length c0, .slice A1 l1.length c1] w fun e w' => e = .returned (.bool r) ∧ Below w.heap.size w w' := by
 have hu87 := Tryd.underlying87
 have HR0 := aS hr0
 have HC0 := aS hc0
 clear hr0 hc0
 have HR1 := aS hr1
 have HC1 := aS hc1
 clear hr1 hc1
 have HB := aS (Below.refl w.heap.size w)
 have H : (if (l0.length : Int) = (l1.length : Int) then (clerestoryref1_SameEdits.l0 k l0 l1 0) else (none)) = some r := h
 clear h
 by_cases c3 : (l0.length : Int) = (l1.length : Int)
 ·rw [if_pos c3] at H
  have c3b0 : ((l0.length : Int) == (l1.length : Int)) = true := beq_iff_eq.mpr c3
  have c3b1 : ((l0.length : Int) != (l1.length : Int)) = false := bne_eq_false_iff_eq.mpr c3
  have c3b2 : (l0.length == l1.length) = true := by first | simpa using c3 | (simp at c3 ⊢; omega)
  clear c3
  have H' := aS H
  clear H
  go_enter Tryd.func36, Tryd.ntmps36
  go_wp2
  go_loopg [5] k (fun kq v5 w' => ∃ (x5_1 : Int), v5 = .int .i64 x5_1 ∧ Aside0 (clerestoryref1_SameEdits.l0 kq l0 l1 x5_1 = some r) ∧ Aside0 (kq ≤ k) ∧ Aside0 (Below w.heap.size w w'))
  case atStart => exact ⟨(0), zi, H', ⟨Nat.le_refl _⟩, ⟨by repeat (first | (with_reducible first | exact HB.out | apply bA | apply bN | apply bD) | exact HB.out)⟩⟩
  case round =>
   clear H'
   try clear c1
   try clear p2
   try clear c3
   try clear c3b0
   try clear c3b1
   try clear c3b2
   obtain ⟨x5_1, rfl, HA, HK1, HB⟩ := hrel
   cases gk with
   | zero => exact absurd HA.out (by simp [clerestoryref1_SameEdits.l0])
   | succ k1 =>
    have H := HA.out
    clear HA
    simp only [clerestoryref1_SameEdits.l0] at H
    by_cases c4 : x5_1 < (l0.length : Int)
    ·rw [if_pos c4] at H
     have c4b0 : decide (x5_1 < (l0.length : Int)) = true := decide_eq_true c4
     clear c4
     by_cases c5 : 0 ≤ x5_1
     ·rw [if_pos c5] at H
      have c5b0 : decide (0 ≤ x5_1) = true := decide_eq_true c5
      clear c5
      by_cases c6 : x5_1 < (l1.length : Int)
      ·rw [if_pos c6] at H
       have c6b0 : decide (x5_1 < (l1.length : Int)) = true := decide_eq_true c6
       clear c6
       replace H := Option.bind_eq_some_iff.mp H
       obtain ⟨t459, A70, H⟩ := H
       replace H : (if t459 = true then (clerestoryref1_SameEdits.l0 k1 l0 l1 (wrap64 (x5_1 + 1))) else (none)) = some r := H
       have A7 := aS A70
       clear A70
       by_cases c8 : t459 = true
       ·subst c8
        have H1 : (clerestoryref1_SameEdits.l0 k1 l0 l1 (wrap64 (x5_1 + 1))) = some r := by rw [if_pos rfl] at H; exact H
        clear H
        have H := H1
        clear H1
        have H' := aS H
        clear H
        try go_wp2
        have n0_ := aS (q0t HB.out)
        clear HB
        have HB := n0_
        clear n0_
        have p457 : 0 ≤ (x5_1 : Int) := od zb
        have q457 : x5_1 < (l0.length : Int) := od zb
        obtain ⟨ad457, A457_8, c457_8, A457_11, c457_11, e457, hx457_0, hx457_1, hx457_2, hx457_3, hx457_4, hx457_5, hx457_6, hx457_7, hx457_8, hx457_9, hx457_10, hx457_11, hl457_8, hi457_8, hl457_11, hi457_11⟩ := at_T87 HR0.out x5_1 p457 q457
        have hw457_11 := hx457_11
        have hw457_10 := hx457_10
        have hw457_9 := hx457_9
        have hw457_8 := hx457_8
        have hw457_7 := hx457_7
        have hw457_6 := hx457_6
        have hw457_5 := hx457_5
        have hw457_4 := hx457_4
        have hw457_3 := hx457_3
        have hw457_2 := hx457_2
        have hw457_1 := hx457_1
        have hw457_0 := hx457_0
        cases e457
        replace hx457_0 := (HB.out.cell (World.block_lt_of_cell? w _ hx457_0)).trans hx457_0
        replace hx457_1 := (HB.out.cell (World.block_lt_of_cell? w _ hx457_1)).trans hx457_1
        replace hx457_2 := (HB.out.cell (World.block_lt_of_cell? w _ hx457_2)).trans hx457_2
        replace hx457_3 := (HB.out.cell (World.block_lt_of_cell? w _ hx457_3)).trans hx457_3
        replace hx457_4 := (HB.out.cell (World.block_lt_of_cell? w _ hx457_4)).trans hx457_4
        replace hx457_5 := (HB.out.cell (World.block_lt_of_cell? w _ hx457_5)).trans hx457_5
        replace hx457_6 := (HB.out.cell (World.block_lt_of_cell? w _ hx457_6)).trans hx457_6
        replace hx457_7 := (HB.out.cell (World.block_lt_of_cell? w _ hx457_7)).trans hx457_7
        replace hx457_8 := (HB.out.cell (World.block_lt_of_cell? w _ hx457_8)).trans hx457_8
        replace hx457_9 := (HB.out.cell (World.block_lt_of_cell? w _ hx457_9)).trans hx457_9
        replace hx457_10 := (HB.out.cell (World.block_lt_of_cell? w _ hx457_10)).trans hx457_10
        replace hx457_11 := (HB.out.cell (World.block_lt_of_cell? w _ hx457_11)).trans hx457_11
        have HR457_8 := aS hi457_8
        have HC457_8 := aS hl457_8
        clear hi457_8 hl457_8
        have HR457_11 := aS hi457_11
        have HC457_11 := aS hl457_11
        clear hi457_11 hl457_11
        replace p457 := eq_true p457
        replace q457 := eq_true q457
        have p458 : 0 ≤ (x5_1 : Int) := od zb
        have q458 : x5_1 < (l1.length : Int) := od zb
        obtain ⟨ad458, A458_8, c458_8, A458_11, c458_11, e458, hx458_0, hx458_1, hx458_2, hx458_3, hx458_4, hx458_5, hx458_6, hx458_7, hx458_8, hx458_9, hx458_10, hx458_11, hl458_8, hi458_8, hl458_11, hi458_11⟩ := at_T87 HR1.out x5_1 p458 q458
        have hw458_11 := hx458_11
        have hw458_10 := hx458_10
        have hw458_9 := hx458_9
        have hw458_8 := hx458_8
        have hw458_7 := hx458_7
        have hw458_6 := hx458_6
        have hw458_5 := hx458_5
        have hw458_4 := hx458_4
        have hw458_3 := hx458_3
        have hw458_2 := hx458_2
        have hw458_1 := hx458_1
        have hw458_0 := hx458_0
        cases e458
        replace hx458_0 := (HB.out.cell (World.block_lt_of_cell? w _ hx458_0)).trans hx458_0
        replace hx458_1 := (HB.out.cell (World.block_lt_of_cell? w _ hx458_1)).trans hx458_1
        replace hx458_2 := (HB.out.cell (World.block_lt_of_cell? w _ hx458_2)).trans hx458_2
        replace hx458_3 := (HB.out.cell (World.block_lt_of_cell? w _ hx458_3)).trans hx458_3
        replace hx458_4 := (HB.out.cell (World.block_lt_of_cell? w _ hx458_4)).trans hx458_4
        replace hx458_5 := (HB.out.cell (World.block_lt_of_cell? w _ hx458_5)).trans hx458_5
        replace hx458_6 := (HB.out.cell (World.block_lt_of_cell? w _ hx458_6)).trans hx458_6
        replace hx458_7 := (HB.out.cell (World.block_lt_of_cell? w _ hx458_7)).trans hx458_7
        replace hx458_8 := (HB.out.cell (World.block_lt_of_cell? w _ hx458_8)).trans hx458_8
        replace hx458_9 := (HB.out.cell (World.block_lt_of_cell? w _ hx458_9)).trans hx458_9
        replace hx458_10 := (HB.out.cell (World.block_lt_of_cell? w _ hx458_10)).trans hx458_10
        replace hx458_11 := (HB.out.cell (World.block_lt_of_cell? w _ hx458_11)).trans hx458_11
        have HR458_8 := aS hi458_8
        have HC458_8 := aS hl458_8
        clear hi458_8 hl458_8
        have HR458_11 := aS hi458_11
        have HC458_11 := aS hl458_11
        clear hi458_11 hl458_11
        replace p458 := eq_true p458
        replace q458 := eq_true q458
        refine start_ (n := 10) (S := fun w' => w'.cell? (ad457.add ((x5_1).toNat * 12)) = some (.int .i64 ((q0g l0 x5_1).f0)) ∧ w'.cell? ⟨(ad457.add ((x5_1).toNat * 12)).block, (ad457.add ((x5_1).toNat * 12)).off + 1, none⟩ = some (.int .i64 ((q0g l0 x5_1).f1)) ∧ w'.cell? ⟨(ad457.add ((x5_1).toNat * 12)).block, (ad457.add ((x5_1).toNat * 12)).off + 2, none⟩ = some (.int .i64 ((q0g l0 x5_1).f2)) ∧ w'.cell? ⟨(ad457.add ((x5_1).toNat * 12)).block, (ad457.add ((x5_1).toNat * 12)).off + 3, none⟩ = some (.int .i64 ((q0g l0 x5_1).f3)) ∧ w'.cell? ⟨(ad457.add ((x5_1).toNat * 12)).block, (ad457.add ((x5_1).toNat * 12)).off + 4, none⟩ = some (.string ((q0g l0 x5_1).f4)) ∧ w'.cell? ⟨(ad457.add ((x5_1).toNat * 12)).block, (ad457.add ((x5_1).toNat * 12)).off + 5, none⟩ = some (.string ((q0g l0 x5_1).f5)) ∧ w'.cell? ⟨(ad457.add ((x5_1).toNat * 12)).block, (ad457.add ((x5_1).toNat * 12)).off + 6, none⟩ = some (.int .i64 ((q0g l0 x5_1).f6.f0)) ∧ w'.cell? ⟨(ad457.add ((x5_1).toNat * 12)).block, (ad457.add ((x5_1).toNat * 12)).off + 7, none⟩ = some (.string ((q0g l0 x5_1).f6.f1)) ∧ w'.cell? ⟨(ad457.add ((x5_1).toNat * 12)).block, (ad457.add ((x5_1).toNat * 12)).off + 8, none⟩ = some (.slice A457_8 ((q0g l0 x5_1).f6.f2).length c457_8) ∧ w'.cell? ⟨(ad457.add ((x5_1).toNat * 12)).block, (ad457.add ((x5_1).toNat * 12)).off + 9, none⟩ = some (.string ((q0g l0 x5_1).f6.f3)) ∧ w'.cell? ⟨(ad457.add ((x5_1).toNat * 12)).block, (ad457.add ((x5_1).toNat * 12)).off + 10, none⟩ = some (.int .i64 ((q0g l0 x5_1).f6.f4)) ∧ w'.cell? ⟨(ad457.add ((x5_1).toNat * 12)).block, (ad457.add ((x5_1).toNat * 12)).off + 11, none⟩ = some (.slice A457_11 ((q0g l0 x5_1).f6.f5).length c457_11) ∧ w'.cell? (ad458.add ((x5_1).toNat * 12)) = some (.int .i64 ((q0g l1 x5_1).f0)) ∧ w'.cell? ⟨(ad458.add ((x5_1).toNat * 12)).block, (ad458.add ((x5_1).toNat * 12)).off + 1, none⟩ = some (.int .i64 ((q0g l1 x5_1).f1)) ∧ w'.cell? ⟨(ad458.add ((x5_1).toNat * 12)).block, (ad458.add ((x5_1).toNat * 12)).off + 2, none⟩ = some (.int .i64 ((q0g l1 x5_1).f2)) ∧ w'.cell? ⟨(ad458.add ((x5_1).toNat * 12)).block, (ad458.add ((x5_1).toNat * 12)).off + 3, none⟩ = some (.int .i64 ((q0g l1 x5_1).f3)) ∧ w'.cell? ⟨(ad458.add ((x5_1).toNat * 12)).block, (ad458.add ((x5_1).toNat * 12)).off + 4, none⟩ = some (.string ((q0g l1 x5_1).f4)) ∧ w'.cell? ⟨(ad458.add ((x5_1).toNat * 12)).block, (ad458.add ((x5_1).toNat * 12)).off + 5, none⟩ = some (.string ((q0g l1 x5_1).f5)) ∧ w'.cell? ⟨(ad458.add ((x5_1).toNat * 12)).block, (ad458.add ((x5_1).toNat * 12)).off + 6, none⟩ = some (.int .i64 ((q0g l1 x5_1).f6.f0)) ∧ w'.cell? ⟨(ad458.add ((x5_1).toNat * 12)).block, (ad458.add ((x5_1).toNat * 12)).off + 7, none⟩ = some (.string ((q0g l1 x5_1).f6.f1)) ∧ w'.cell? ⟨(ad458.add ((x5_1).toNat * 12)).block, (ad458.add ((x5_1).toNat * 12)).off + 8, none⟩ = some (.slice A458_8 ((q0g l1 x5_1).f6.f2).length c458_8) ∧ w'.cell? ⟨(ad458.add ((x5_1).toNat * 12)).block, (ad458.add ((x5_1).toNat * 12)).off + 9, none⟩ = some (.string ((q0g l1 x5_1).f6.f3)) ∧ w'.cell? ⟨(ad458.add ((x5_1).toNat * 12)).block, (ad458.add ((x5_1).toNat * 12)).off + 10, none⟩ = some (.int .i64 ((q0g l1 x5_1).f6.f4)) ∧ w'.cell? ⟨(ad458.add ((x5_1).toNat * 12)).block, (ad458.add ((x5_1).toNat * 12)).off + 11, none⟩ = some (.slice A458_11 ((q0g l1 x5_1).f6.f5).length c458_11)) (ds := []) #[false, false, false, false, false, false, false, false, false, false] (by kernel_rfl) rfl rfl ⟨((HB.out.cell (World.block_lt_of_cell? w _ hw457_0)).trans hw457_0), ((HB.out.cell (World.block_lt_of_cell? w _ hw457_1)).trans hw457_1), ((HB.out.cell (World.block_lt_of_cell? w _ hw457_2)).trans hw457_2), ((HB.out.cell (World.block_lt_of_cell? w _ hw457_3)).trans hw457_3), ((HB.out.cell (World.block_lt_of_cell? w _ hw457_4)).trans hw457_4), ((HB.out.cell (World.block_lt_of_cell? w _ hw457_5)).trans hw457_5), ((HB.out.cell (World.block_lt_of_cell? w _ hw457_6)).trans hw457_6), ((HB.out.cell (World.block_lt_of_cell? w _ hw457_7)).trans hw457_7), ((HB.out.cell (World.block_lt_of_cell? w _ hw457_8)).trans hw457_8), ((HB.out.cell (World.block_lt_of_cell? w _ hw457_9)).trans hw457_9), ((HB.out.cell (World.block_lt_of_cell? w _ hw457_10)).trans hw457_10), ((HB.out.cell (World.block_lt_of_cell? w _ hw457_11)).trans hw457_11), ((HB.out.cell (World.block_lt_of_cell? w _ hw458_0)).trans hw458_0), ((HB.out.cell (World.block_lt_of_cell? w _ hw458_1)).trans hw458_1), ((HB.out.cell (World.block_lt_of_cell? w _ hw458_2)).trans hw458_2), ((HB.out.cell (World.block_lt_of_cell? w _ hw458_3)).trans hw458_3), ((HB.out.cell (World.block_lt_of_cell? w _ hw458_4)).trans hw458_4), ((HB.out.cell (World.block_lt_of_cell? w _ hw458_5)).trans hw458_5), ((HB.out.cell (World.block_lt_of_cell? w _ hw458_6)).trans hw458_6), ((HB.out.cell (World.block_lt_of_cell? w _ hw458_7)).trans hw458_7), ((HB.out.cell (World.block_lt_of_cell? w _ hw458_8)).trans hw458_8), ((HB.out.cell (World.block_lt_of_cell? w _ hw458_9)).trans hw458_9), ((HB.out.cell (World.block_lt_of_cell? w _ hw458_10)).trans hw458_10), ((HB.out.cell (World.block_lt_of_cell? w _ hw458_11)).trans hw458_11)⟩ (fun hHeld => ?_); refine q14 clerestoryref1_SameEdits.tab6 clerestoryref1_SameEdits.bits6 (fun HT_ HW_ => ?_)
        generalize wr.drew = w9 at HB HR457_11 HR457_8 HR458_11 HR458_8 hx457_0 hx457_1 hx457_10 hx457_11 hx457_2 hx457_3 hx457_4 hx457_5 hx457_6 hx457_7 hx457_8 hx457_9 hx458_0 hx458_1 hx458_10 hx458_11 hx458_2 hx458_3 hx458_4 hx458_5 hx458_6 hx458_7 hx458_8 hx458_9 hHeld ⊢
        refine q0e (i := 0) (N := some 17) (v := ?_) (a' := ?_) #[true, false, false, false, false, false, false, false, false, false] rfl rfl (q0b HT_.out (by kernel_rfl)) (fun _ _ _ h => h) (Or.inl ⟨by rfl, ?_⟩) ?_ ?_
        rotate_left
        ·intro w'
         go_simp
         with_reducible rfl
        rotate_left
        ·simp only [Act.put, s1, s2, s3, q09, q0a]
         rfl
        refine q0e (i := 1) (N := some 18) (v := ?_) (a' := ?_) #[true, true, false, false, false, false, false, false, false, false] rfl rfl (q0b HT_.out (by kernel_rfl)) (fun _ _ _ h => h) (Or.inl ⟨by rfl, ?_⟩) ?_ ?_
        rotate_left
        ·intro w'
         go_simp
         with_reducible rfl
        rotate_left
        ·simp only [Act.put, s1, s2, s3, q09, q0a]
         rfl
        refine q0e (i := 2) (N := some 19) (v := ?_) (a' := ?_) #[true, true, true, false, false, false, false, false, false, false] rfl rfl (q0b HT_.out (by kernel_rfl)) (fun _ _ _ h => h) (Or.inl ⟨by rfl, ?_⟩) ?_ ?_
        rotate_left
        ·intro w'
         go_simp
         with_reducible rfl
        rotate_left
        ·simp only [Act.put, s1, s2, s3, q09, q0a]
         rfl
        refine q0e (i := 4) (N := some 21) (v := ?_) (a' := ?_) #[true, true, true, false, true, false, false, false, false, false] rfl rfl (q0b HT_.out (by kernel_rfl)) (fun _ _ _ h => h) (Or.inl ⟨by rfl, ?_⟩) ?_ ?_
        rotate_left
        ·intro w'
         go_simp
         with_reducible rfl
        rotate_left
        ·simp only [Act.put, s1, s2, s3, q09, q0a]
         rfl
        refine q0e (i := 5) (N := some 22) (v := ?_) (a' := ?_) #[true, true, true, false, true, true, false, false, false, false] rfl rfl (q0b HT_.out (by kernel_rfl)) (fun _ _ _ h => h) (Or.inl ⟨by rfl, ?_⟩) ?_ ?_
        rotate_left
        ·intro w'
         go_simp
         with_reducible rfl
        rotate_left
        ·simp only [Act.put, s1, s2, s3, q09, q0a]
         rfl
        refine q0e (i := 6) (N := some 23) (v := ?_) (a' := ?_) #[true, true, true, false, true, true, true, false, false, false] rfl rfl (q0b HT_.out (by kernel_rfl)) (fun _ _ _ h => h) (Or.inl ⟨by rfl, ?_⟩) ?_ ?_
        rotate_left
        ·intro w'
         go_simp
         with_reducible rfl
        rotate_left
        ·simp only [Act.put, s1, s2, s3, q09, q0a]
         rfl
        refine take_ (i := 3) (N := some 20) (v := ?_) (a' := ?_) #[true, true, true, true, true, true, true, false, false, false] rfl rfl (q0m HT_.out HW_.out (by kernel_rfl)) (fun _ _ _ h => h) (Or.inl ⟨by rfl, ?_⟩) hHeld ?_ ?_
        rotate_left
        ·rintro w' ⟨s0, s1, s2, s3, s4, s5, s6, s7, s8, s9, s10, s11, s12, s13, s14, s15, s16, s17, s18, s19, s20, s21, s22, s23⟩
         go_simp
         with_reducible rfl
        rotate_left
        ·simp only [Act.put, s1, s2, s3, q09, q0a]
         rfl
        refine take_ (i := 7) (N := some 24) (v := ?_) (a' := ?_) #[true, true, true, true, true, true, true, true, false, false] rfl rfl (q0m HT_.out HW_.out (by kernel_rfl)) (fun _ _ _ h => h) (Or.inl ⟨by rfl, ?_⟩) hHeld ?_ ?_
        rotate_left
        ·rintro w' ⟨s0, s1, s2, s3, s4, s5, s6, s7, s8, s9, s10, s11, s12, s13, s14, s15, s16, s17, s18, s19, s20, s21, s22, s23⟩
         go_simp
         with_reducible rfl
        rotate_left
        ·simp only [Act.put, s1, s2, s3, q09, q0a]
         rfl
        refine one_ (i := 8) (N := some 25) #[true, true, true, true, true, true, true, true, true, false] rfl rfl (q1j HT_.out (by kernel_rfl)) (by decide) (fun K hK => ?_)
        refine goes_ Tryd.func86 (by kernel_rfl) rfl #[.agg #[.int .i64 ((q0g l0 x5_1).f0), .int .i64 ((q0g l0 x5_1).f1), .int .i64 ((q0g l0 x5_1).f2), .int .i64 ((q0g l0 x5_1).f3), .string ((q0g l0 x5_1).f4), .string ((q0g l0 x5_1).f5), .int .i64 ((q0g l0 x5_1).f6.f0), .string ((q0g l0 x5_1).f6.f1), .slice A457_8 ((q0g l0 x5_1).f6.f2).length c457_8, .string ((q0g l0 x5_1).f6.f3), .int .i64 ((q0g l0 x5_1).f6.f4), .slice A457_11 ((q0g l0 x5_1).f6.f5).length c457_11], .agg #[.int .i64 ((q0g l1 x5_1).f0), .int .i64 ((q0g l1 x5_1).f1), .int .i64 ((q0g l1 x5_1).f2), .int .i64 ((q0g l1 x5_1).f3), .string ((q0g l1 x5_1).f4), .string ((q0g l1 x5_1).f5), .int .i64 ((q0g l1 x5_1).f6.f0), .string ((q0g l1 x5_1).f6.f1), .slice A458_8 ((q0g l1 x5_1).f6.f2).length c458_8, .string ((q0g l1 x5_1).f6.f3), .int .i64 ((q0g l1 x5_1).f6.f4), .slice A458_11 ((q0g l1 x5_1).f6.f5).length c458_11]] (by rfl) rfl rfl zc ?_
        with_reducible refine (clerestoryref1_SameEdit.calls k1 ((q0g l0 x5_1).f0) ((q0g l0 x5_1).f1) ((q0g l0 x5_1).f2) ((q0g l0 x5_1).f3) ((q0g l0 x5_1).f4) ((q0g l0 x5_1).f5) ((q0g l0 x5_1).f6.f0) ((q0g l0 x5_1).f6.f1) _ _ ((q0g l0 x5_1).f6.f2) ((q0g l0 x5_1).f6.f3) ((q0g l0 x5_1).f6.f4) _ _ ((q0g l0 x5_1).f6.f5) ((q0g l1 x5_1).f0) ((q0g l1 x5_1).f1) ((q0g l1 x5_1).f2) ((q0g l1 x5_1).f3) ((q0g l1 x5_1).f4) ((q0g l1 x5_1).f5) ((q0g l1 x5_1).f6.f0) ((q0g l1 x5_1).f6.f1) _ _ ((q0g l1 x5_1).f6.f2) ((q0g l1 x5_1).f6.f3) ((q0g l1 x5_1).f6.f4) _ _ ((q0g l1 x5_1).f6.f5) true _ ?side1 ?side2 ?side3 ?side4 ?side5 ?side6 ?side7 ?side8 A7.out).mono ?_
        (case side1 => repeat (first | exact (Kd.C_below HR457_8.out HB.out) | (with_reducible refine cA ?_ _) | (with_reducible refine cN ?_ _) | (with_reducible refine cD ?_)))
        (case side2 => exact HC457_8.out)
        (case side3 => repeat (first | exact (Kd.C_below HR457_11.out HB.out) | (with_reducible refine cA ?_ _) | (with_reducible refine cN ?_ _) | (with_reducible refine cD ?_)))
        (case side4 => exact HC457_11.out)
        (case side5 => repeat (first | exact (Kd.C_below HR458_8.out HB.out) | (with_reducible refine cA ?_ _) | (with_reducible refine cN ?_ _) | (with_reducible refine cD ?_)))
        (case side6 => exact HC458_8.out)
        (case side7 => repeat (first | exact (Kd.C_below HR458_11.out HB.out) | (with_reducible refine cA ?_ _) | (with_reducible refine cN ?_ _) | (with_reducible refine cD ?_)))
        (case side8 => exact HC458_11.out)
        rintro e w10 ⟨rfl, hb⟩
        refine ⟨_, rfl, ?_⟩
        have n0_ := aS (q02 (z7 HB.out) hb)
        clear HB
        have HB := n0_
        clear n0_
        (try clear hb)
        (try clear hb2)
        (try clear hk)
        (try clear hi)
        refine hK.out _ _ ⟨((HB.out.cell (World.block_lt_of_cell? w _ hw457_0)).trans hw457_0), ((HB.out.cell (World.block_lt_of_cell? w _ hw457_1)).trans hw457_1), ((HB.out.cell (World.block_lt_of_cell? w _ hw457_2)).trans hw457_2), ((HB.out.cell (World.block_lt_of_cell? w _ hw457_3)).trans hw457_3), ((HB.out.cell (World.block_lt_of_cell? w _ hw457_4)).trans hw457_4), ((HB.out.cell (World.block_lt_of_cell? w _ hw457_5)).trans hw457_5), ((HB.out.cell (World.block_lt_of_cell? w _ hw457_6)).trans hw457_6), ((HB.out.cell (World.block_lt_of_cell? w _ hw457_7)).trans hw457_7), ((HB.out.cell (World.block_lt_of_cell? w _ hw457_8)).trans hw457_8), ((HB.out.cell (World.block_lt_of_cell? w _ hw457_9)).trans hw457_9), ((HB.out.cell (World.block_lt_of_cell? w _ hw457_10)).trans hw457_10), ((HB.out.cell (World.block_lt_of_cell? w _ hw457_11)).trans hw457_11), ((HB.out.cell (World.block_lt_of_cell? w _ hw458_0)).trans hw458_0), ((HB.out.cell (World.block_lt_of_cell? w _ hw458_1)).trans hw458_1), ((HB.out.cell (World.block_lt_of_cell? w _ hw458_2)).trans hw458_2), ((HB.out.cell (World.block_lt_of_cell? w _ hw458_3)).trans hw458_3), ((HB.out.cell (World.block_lt_of_cell? w _ hw458_4)).trans hw458_4), ((HB.out.cell (World.block_lt_of_cell? w _ hw458_5)).trans hw458_5), ((HB.out.cell (World.block_lt_of_cell? w _ hw458_6)).trans hw458_6), ((HB.out.cell (World.block_lt_of_cell? w _ hw458_7)).trans hw458_7), ((HB.out.cell (World.block_lt_of_cell? w _ hw458_8)).trans hw458_8), ((HB.out.cell (World.block_lt_of_cell? w _ hw458_9)).trans hw458_9), ((HB.out.cell (World.block_lt_of_cell? w _ hw458_10)).trans hw458_10), ((HB.out.cell (World.block_lt_of_cell? w _ hw458_11)).trans hw458_11)⟩ (fun hHeld => ?_)
        clear hK K
        refine norm_ (a' := ?_) ?_ ?_
        rotate_left
        ·show Act.put _ (some 25) _ = _
         simp only [Act.put, s1, s2, s3, q09, q0a]
         rfl
        refine q0e (i := 9) (N := some 26) (v := ?_) (a' := ?_) #[true, true, true, true, true, true, true, true, true, true] rfl rfl (q0b HT_.out (by kernel_rfl)) (fun _ _ _ h => h) (Or.inl ⟨by rfl, ?_⟩) ?_ ?_
        rotate_left
        ·intro w'
         go_simp
         with_reducible rfl
        rotate_left
        ·simp only [Act.put, s1, s2, s3, q09, q0a]
         rfl
        refine done_ (q1l HT_.out (by kernel_rfl)) ?_
        try go_wp2
        go_roundg k1
        case measure => have := HK1.out; omega
        case rel => exact ⟨(wrap64 (x5_1 + 1)), zi, H', ⟨by have := HK1.out; omega⟩, ⟨by repeat (first | (with_reducible first | exact HB.out | apply bA | apply bN | apply bD) | exact HB.out)⟩⟩
       ·replace c8 := Bool.eq_false_iff.mpr c8
        subst c8
        have H1 : (none) = some r := by rw [if_neg (show ¬ (false = true) by decide)] at H; exact H
        clear H
        have H := H1
        clear H1
        exact absurd H (by simp)
      ·rw [if_neg c6] at H
       exact absurd H (by simp)
     ·rw [if_neg c5] at H
      exact absurd H (by simp)
    ·rw [if_neg c4] at H
     have c4b0 : decide (x5_1 < (l0.length : Int)) = false := decide_eq_false c4
     clear c4
     obtain rfl := Option.some.inj H
     go_wp2
     go_ret
     exact ⟨by first | rfl | (simp [q05, q04] <;> rfl) | (simp [*, q05, q04] <;> rfl), by repeat (first | (with_reducible first | exact HB.out | apply bA | apply bN | apply bD) | exact HB.out)⟩
 ·rw [if_neg c3] at H
  exact absurd H (by simp)
def clerestorylaw1_SpanCuts.f (k : Nat) (l0 : List S43) (q : Bool) (a b c d : Int) : Option Bool := (clerestorylaw1_brief.f k l0 q).bind fun n => (span_Cut.f k n.1 n.2 a b c d).bind fun L => (clerestoryref1_SpanErr.f k n.1 n.2 a b c d).bind fun W => (if W = 0 then clerestoryref1_SpanCut.f k n.1 n.2 a b c d else some []).bind fun x => (clerestorylaw1_spanBegun.f k).bind fun g => (clerestoryref1_SameEdits.f k L.1 (if 40 < x.length then [] else x)).bind fun s => if g = true ∧ s = true ∧ L.2 = (if 40 < x.length then 2 else W) then some true else none
set_option maxHeartbeats 16000000 in
set_option maxRecDepth 100000 in
theorem clerestorylaw1_SpanCuts.calls (k : Nat) (A0 : Option Addr) (c0 : Nat) (l0 : List S43) (q : Bool) (s0 s1 s2 s3 : Int) (r : Bool) (w : World) (hr0 : Kd.C k43 w A0 l0.length l0) (hc0 : l0.length ≤ c0) (h : clerestorylaw1_SpanCuts.f k l0 q s0 s1 s2 s3 = some r) :
    Calls Tryd.prog 6 #[.agg #[.slice A0 l0.length c0, .bool q], .agg #[.int .i64 s0, .int .i64 s1, .int .i64 s2, .int .i64 s3]] w fun e w' => e = .returned (.bool r) ∧ Below w.heap.size w w' := by
  have hu24 := Tryd.underlying24
  have hu52 := Tryd.underlying52
  have hu50 := Tryd.underlying50
  have hu54 := Tryd.underlying54
  have HC := Aside0.mk hr0
  have HL := Aside0.mk hc0
  clear hr0 hc0
  unfold clerestorylaw1_SpanCuts.f at h
  obtain ⟨⟨p1, p2⟩, hf, h⟩ := Option.bind_eq_some_iff.1 h
  have HF := Aside0.mk hf
  obtain ⟨⟨ll, L2⟩, hl, h⟩ := Option.bind_eq_some_iff.1 h
  have HLE : Aside0 (span_Cut.f k p1 p2 s0 s1 s2 s3 = some (ll, L2)) := ⟨hl⟩
  obtain ⟨W, hv, h⟩ := Option.bind_eq_some_iff.1 h
  have HVE : Aside0 (clerestoryref1_SpanErr.f k p1 p2 s0 s1 s2 s3 = some W) := ⟨hv⟩
  obtain ⟨x, hx, h⟩ := Option.bind_eq_some_iff.1 h
  have HX2 : Aside0 ((if W = 0 then clerestoryref1_SpanCut.f k p1 p2 s0 s1 s2 s3 else some []) = some x) := ⟨hx⟩
  obtain ⟨g, hg, h⟩ := Option.bind_eq_some_iff.1 h
  obtain ⟨s, hs, h⟩ := Option.bind_eq_some_iff.1 h
  refine iGq h ?_
  clear h
  intro ⟨g1, g2, g3⟩ h
  obtain rfl := Option.some.inj h
  have HG : Aside0 (clerestorylaw1_spanBegun.f k = some true) := ⟨by rw [← g1]; exact hg⟩
  have HS1 : Aside0 (clerestoryref1_SameEdits.f k ll (if 40 < x.length then [] else x) = some true) := ⟨by rw [← g2]; exact hs⟩
  have G3 : Aside0 (L2 = (if 40 < x.length then 2 else W)) := ⟨g3⟩
  clear hf hl hv hx hg hs g1 g2 g3 h
  go_enter Tryd.func6, Tryd.ntmps6
  go_upto_region 1 with (first | ((with_reducible refine q07 (N := 2) rfl ?_); refine q1u rfl (N := 2) rfl (cs := #[.slice A0 l0.length c0, .bool q]) (t := 24) zh ?_; intro gd wd DK GD DS) | ((with_reducible refine q07 (N := 3) rfl ?_); refine q1u rfl (N := 3) rfl (cs := #[.int .i64 s0, .int .i64 s1, .int .i64 s2, .int .i64 s3]) (t := 52) zh ?_; intro gs ws_ SK GS SS))
  have n_DK := Aside0.mk (q01 DK.out SS.out)
  have HB := Aside0.mk (q02 DS.out SS.out)
  clear DK DS SS GS
  have DK := n_DK
  clear n_DK
  obtain ⟨hd0, hd1, hdf0, hdf1⟩ := bk2 DK.out
  obtain ⟨hs0, hs1, hs2, hs3, -, -, -, -⟩ := bk4 SK.out
  go_upto_region 2 with ((go_at_call 31; (with_reducible refine (clerestorylaw1_brief.calls k (fun k_ => k_ < w.heap.size) A0 c0 l0 q p1 p2 _ (Kd.V_mk HL.out (Kd.F_below (Kd.C_F k43_heap HC.out) HB.out)) HF.out).mono ?_); rintro e w7 ⟨v1, rfl, hn, hb⟩; obtain ⟨A1, c1, e_⟩ := Kd.N_slice hn; subst e_; have HV := Aside0.mk (Kd.N_V (base' := 0) hn); have n_DK := Aside0.mk (q01 DK.out hb); have n_SK := Aside0.mk (q01 SK.out hb); have n_HB := Aside0.mk (q02 HB.out hb); have HX := Aside0.mk (q0i DK.out); clear hd0 hd1 hdf0 hdf1 hs0 hs1 hs2 hs3; clear DK SK HB hn hb; have DK := n_DK; have SK := n_SK; have HB := n_HB; clear n_DK n_SK n_HB; obtain ⟨hd0, hd1, hdf0, hdf1⟩ := bk2 DK.out; obtain ⟨hs0, hs1, hs2, hs3, -, -, -, -⟩ := bk4 SK.out))
  have hfar : ∀ k_ : Nat, (k_ < w.heap.size ∨ ws_.heap.size ≤ k_) → k_ ≠ gd := fun k_ hk e_ => by
    have h1_ := GD.out
    have h2_ := HX.out
    omega
  have hne : gs ≠ gd := blk_ne SK.out DK.out (by decide)
  have HL1 := Aside0.mk (Kd.V_reads' HV.out).2.1
  have n_HC := Aside0.mk (Kd.V_reads' (Kd.V_far (p := ⟨gd, 1, none⟩) (Kd.V_far (p := ⟨gd, 0, none⟩) HV.out hfar (.slice A1 p1.length c1)) hfar (.bool p2))).2.2
  have n_DK := Aside0.mk ((blk_set (blk_set DK.out 0 (.slice A1 p1.length c1)) 1 (.bool p2)).trans (show _ = some (Obj.cells #[.slice A1 p1.length c1, .bool p2] 24 (0, 0)) from rfl))
  have n_SK := Aside0.mk ((Below.heap_setCell _ ⟨gd, 1, none⟩ (.bool p2) gs hne).trans ((Below.heap_setCell _ ⟨gd, 0, none⟩ (.slice A1 p1.length c1) gs hne).trans SK.out))
  have n_HB := Aside0.mk (below_set (j := 1) (v := .bool p2) (below_set (j := 0) (v := .slice A1 p1.length c1) HB.out GD.out) GD.out)
  clear DK SK HB HV hd0 hd1 hdf0 hdf1 hs0 hs1 hs2 hs3 hfar hne HX HC HL
  generalize ((w7.setCell ⟨gd, 0, none⟩ (.slice A1 p1.length c1)).setCell ⟨gd, 1, none⟩ (.bool p2)) = w8 at n_HC n_DK n_SK n_HB ⊢
  have DK := n_DK
  have SK := n_SK
  have HB := n_HB
  have HC1 := n_HC
  clear n_DK n_SK n_HB n_HC
  obtain ⟨hd0, hd1, hdf0, hdf1⟩ := bk2 DK.out
  obtain ⟨hs0, hs1, hs2, hs3, -, -, -, -⟩ := bk4 SK.out
  go_upto_region 3 with ((go_at_call 32; (with_reducible refine (span_Cut.calls k A1 c1 p1 p2 s0 s1 s2 s3 ll L2 _ HC1.out HL1.out HLE.out).mono ?_); rintro e w_ ⟨v5, rfl, hs_, hb⟩; obtain ⟨Al, cl, e_⟩ := Kd.S_slice hs_; subst e_; have HRl := Aside0.mk (Kd.S_reads' hs_).2.2; have HLl := Aside0.mk (Kd.S_reads' hs_).2.1; clear hs_; have n_DK := Aside0.mk (q01 DK.out hb); have n_SK := Aside0.mk (q01 SK.out hb); have n_HB := Aside0.mk (q02 HB.out hb); have n_HC1 := Aside0.mk (Kd.C_below HC1.out hb); clear hd0 hd1 hdf0 hdf1 hs0 hs1 hs2 hs3; clear DK SK HB HC1 hb; have DK := n_DK; have SK := n_SK; have HB := n_HB; have HC1 := n_HC1; clear n_DK n_SK n_HB n_HC1; obtain ⟨hd0, hd1, hdf0, hdf1⟩ := bk2 DK.out; obtain ⟨hs0, hs1, hs2, hs3, -, -, -, -⟩ := bk4 SK.out))
  go_upto_region 5 with ((go_at_call 33; (with_reducible refine (clerestoryref1_SpanErr.calls k A1 c1 p1 p2 s0 s1 s2 s3 W _ HC1.out HL1.out HVE.out).mono ?_); rintro e w_ ⟨rfl, hb⟩; have n_DK := Aside0.mk (q01 DK.out hb); have n_SK := Aside0.mk (q01 SK.out hb); have n_HB := Aside0.mk (q02 HB.out hb); have n_HC1 := Aside0.mk (Kd.C_below HC1.out hb); have n_HRl := Aside0.mk (Kd.C_below HRl.out hb); clear hd0 hd1 hdf0 hdf1 hs0 hs1 hs2 hs3; clear DK SK HB HC1 HRl hb; have DK := n_DK; have SK := n_SK; have HB := n_HB; have HC1 := n_HC1; have HRl := n_HRl; clear n_DK n_SK n_HB n_HC1 n_HRl; obtain ⟨hd0, hd1, hdf0, hdf1⟩ := bk2 DK.out; obtain ⟨hs0, hs1, hs2, hs3, -, -, -, -⟩ := bk4 SK.out))
  have hx := HX2.out
  clear HX2
  by_cases zw : W = 0
  · rw [if_pos zw] at hx
    have HX3 := Aside0.mk hx
    have zwb : (W == 0) = true := beq_iff_eq.mpr zw
    clear hx
    go_upto_region 7 with ((go_at_call 34; (with_reducible refine (clerestoryref1_SpanCut.calls k A1 c1 p1 p2 s0 s1 s2 s3 x _ HC1.out HL1.out HX3.out).mono ?_); rintro e w_ ⟨v8, rfl, hs_, hb⟩; obtain ⟨Aw, cw, e_⟩ := Kd.S_slice hs_; subst e_; have HRw := Aside0.mk (Kd.S_reads' hs_).2.2; have HLw := Aside0.mk (Kd.S_reads' hs_).2.1; clear hs_; have n_DK := Aside0.mk (q01 DK.out hb); have n_SK := Aside0.mk (q01 SK.out hb); have n_HB := Aside0.mk (q02 HB.out hb); have n_HC1 := Aside0.mk (Kd.C_below HC1.out hb); have n_HRl := Aside0.mk (Kd.C_below HRl.out hb); clear hd0 hd1 hdf0 hdf1 hs0 hs1 hs2 hs3; clear DK SK HB HC1 HRl hb; have DK := n_DK; have SK := n_SK; have HB := n_HB; have HC1 := n_HC1; have HRl := n_HRl; clear n_DK n_SK n_HB n_HC1 n_HRl; obtain ⟨hd0, hd1, hdf0, hdf1⟩ := bk2 DK.out; obtain ⟨hs0, hs1, hs2, hs3, -, -, -, -⟩ := bk4 SK.out))
    by_cases c40 : 40 < x.length
    · have h1 := HS1.out
      have h2 := G3.out
      rw [if_pos c40] at h1 h2
      have HSE := Aside0.mk h1
      subst h2
      have cb : decide ((x.length : Int) > 40) = true := decide_eq_true (by omega)
      clear c40 h1 HS1 G3 zw zwb
      go_wp2_with (first | (go_at_call 35; (with_reducible refine (clerestorylaw1_spanBegun.calls k true _ HG.out).mono ?_); rintro e w_ ⟨rfl, hb⟩; have n_DK := Aside0.mk (q01 DK.out hb); have n_SK := Aside0.mk (q01 SK.out hb); have n_HB := Aside0.mk (q02 HB.out hb); have n_HC1 := Aside0.mk (Kd.C_below HC1.out hb); have n_HRl := Aside0.mk (Kd.C_below HRl.out hb); clear hd0 hd1 hdf0 hdf1 hs0 hs1 hs2 hs3; clear DK SK HB HC1 HRl hb; have DK := n_DK; have SK := n_SK; have HB := n_HB; have HC1 := n_HC1; have HRl := n_HRl; clear n_DK n_SK n_HB n_HC1 n_HRl; obtain ⟨hd0, hd1, hdf0, hdf1⟩ := bk2 DK.out; obtain ⟨hs0, hs1, hs2, hs3, -, -, -, -⟩ := bk4 SK.out) | (go_at_call 36; (refine (show Calls Tryd.prog 36 #[.slice Al ll.length cl, .slice none 0 0] _ _ from clerestoryref1_SameEdits.calls k Al cl ll none 0 [] true _ HRl.out HLl.out (Kd.S_reads' (Kd.S_nil k87 87 _ 0 (fun _ => True))).2.2 (Nat.le_refl _) HSE.out).mono ?_); rintro e w_ ⟨rfl, hb⟩; have n_HB := Aside0.mk (q02 HB.out hb); clear HB hb; have HB := n_HB; clear n_HB))
      go_ret
      exact ⟨rfl, HB.out⟩
    · have h1 := HS1.out
      have h2 := G3.out
      rw [if_neg c40] at h1 h2
      have HSE := Aside0.mk h1
      subst h2
      have cb : decide ((x.length : Int) > 40) = false := decide_eq_false (by omega)
      have b4 : (L2 == L2) = true := beq_self_eq_true _
      have b5 : (L2 == 0) = true := beq_iff_eq.mpr (by omega)
      clear c40 h1 HS1 G3 zw zwb
      go_wp2_with (first | (go_at_call 35; (with_reducible refine (clerestorylaw1_spanBegun.calls k true _ HG.out).mono ?_); rintro e w_ ⟨rfl, hb⟩; have n_DK := Aside0.mk (q01 DK.out hb); have n_SK := Aside0.mk (q01 SK.out hb); have n_HB := Aside0.mk (q02 HB.out hb); have n_HC1 := Aside0.mk (Kd.C_below HC1.out hb); have n_HRl := Aside0.mk (Kd.C_below HRl.out hb); have n_HRw := Aside0.mk (Kd.C_below HRw.out hb); clear hd0 hd1 hdf0 hdf1 hs0 hs1 hs2 hs3; clear DK SK HB HC1 HRl HRw hb; have DK := n_DK; have SK := n_SK; have HB := n_HB; have HC1 := n_HC1; have HRl := n_HRl; have HRw := n_HRw; clear n_DK n_SK n_HB n_HC1 n_HRl n_HRw; obtain ⟨hd0, hd1, hdf0, hdf1⟩ := bk2 DK.out; obtain ⟨hs0, hs1, hs2, hs3, -, -, -, -⟩ := bk4 SK.out) | (go_at_call 36; (refine (show Calls Tryd.prog 36 #[.slice Al ll.length cl, .slice Aw x.length cw] _ _ from clerestoryref1_SameEdits.calls k Al cl ll Aw cw x true _ HRl.out HLl.out HRw.out HLw.out HSE.out).mono ?_); rintro e w_ ⟨rfl, hb⟩; have n_HB := Aside0.mk (q02 HB.out hb); clear HB hb; have HB := n_HB; clear n_HB))
      go_ret
      exact ⟨rfl, HB.out⟩
  · rw [if_neg zw] at hx
    obtain rfl := Option.some.inj hx
    have h1 := HS1.out
    have h2 := G3.out
    rw [if_neg (by simp)] at h1 h2
    have HSE := Aside0.mk h1
    subst h2
    have zwb : (L2 == 0) = false := beq_eq_false_iff_ne.mpr zw
    have b4 : (L2 == L2) = true := beq_self_eq_true _
    clear h1 HS1 G3 zw hx
    go_upto_region 9 with (fail)
    go_wp2_with (first | (go_at_call 35; (with_reducible refine (clerestorylaw1_spanBegun.calls k true _ HG.out).mono ?_); rintro e w_ ⟨rfl, hb⟩; have n_DK := Aside0.mk (q01 DK.out hb); have n_SK := Aside0.mk (q01 SK.out hb); have n_HB := Aside0.mk (q02 HB.out hb); have n_HC1 := Aside0.mk (Kd.C_below HC1.out hb); have n_HRl := Aside0.mk (Kd.C_below HRl.out hb); clear hd0 hd1 hdf0 hdf1 hs0 hs1 hs2 hs3; clear DK SK HB HC1 HRl hb; have DK := n_DK; have SK := n_SK; have HB := n_HB; have HC1 := n_HC1; have HRl := n_HRl; clear n_DK n_SK n_HB n_HC1 n_HRl; obtain ⟨hd0, hd1, hdf0, hdf1⟩ := bk2 DK.out; obtain ⟨hs0, hs1, hs2, hs3, -, -, -, -⟩ := bk4 SK.out) | (go_at_call 36; (refine (show Calls Tryd.prog 36 #[.slice Al ll.length cl, .slice none 0 0] _ _ from clerestoryref1_SameEdits.calls k Al cl ll none 0 [] true _ HRl.out HLl.out (Kd.S_reads' (Kd.S_nil k87 87 _ 0 (fun _ => True))).2.2 (Nat.le_refl _) HSE.out).mono ?_); rintro e w_ ⟨rfl, hb⟩; have n_HB := Aside0.mk (q02 HB.out hb); clear HB hb; have HB := n_HB; clear n_HB))
    go_ret
    exact ⟨rfl, HB.out⟩
end Go.Proofs.YthjnallbbhnndaaDoor.XSp
namespace Go.Proofs.YthjnallbbhnndaaDoor.XSp
open Go.Proofs.YthjnallbbhnndaaDoor.Short Go.RowKit Go.Proofs.YthjnallbbhnndaaDoorW.PrintWords Go.Proofs.YthjnallbbhnndaaDoorW.PrintLast Go.Proofs.YthjnallbbhnndaaDoor
def ok122 (x_ : S122) : Prop := (fun x_ : ByteArray => x_.size ≤ reachBytes) x_.f0 ∧ (fun x_ : ByteArray => x_.size ≤ reachBytes) x_.f1
theorem rd122 : Rd.Reads Tryd.prog 122 k122 ok122 :=
  ((Rd.reads_struct Tryd.underlying122 (by kernel_rfl) (Rd.readsF_cons rfl (Rd.reads_string Tryd.underlying9 (by kernel_rfl)) (Rd.readsF_one rfl (Rd.reads_string Tryd.underlying9 (by kernel_rfl))))).iso (fun x : S122 => (x.f0, x.f1)) (fun p_ => ⟨p_.1, p_.2⟩) (fun _ => rfl)).imp (fun _ h_ => h_)
def ok43 (x_ : S43) : Prop := (fun x_ : Int => (Lit.int .i64 x_).wf = true) x_.f0 ∧ (fun x_ : ByteArray => x_.size ≤ reachBytes) x_.f1 ∧ (fun l_ : List (S122) => l_.length * 32 ≤ reachBytes ∧ l_.length ≤ 9223372036854775807 ∧ ∀ a ∈ l_, ok122 a) x_.f2 ∧ (fun x_ : ByteArray => x_.size ≤ reachBytes) x_.f3 ∧ (fun x_ : Int => (Lit.int .i64 x_).wf = true) x_.f4 ∧ (fun l_ : List Int => l_.length * 8 ≤ reachBytes ∧ l_.length ≤ 9223372036854775807 ∧ ∀ a ∈ l_, (fun x_ : Int => (Lit.int .i64 x_).wf = true) a) x_.f5
theorem rd43 : Rd.Reads Tryd.prog 43 k43 ok43 :=
  ((Rd.reads_struct Tryd.underlying43 (by kernel_rfl) (Rd.readsF_cons rfl (Rd.reads_int Tryd.underlying3 (by kernel_rfl)) (Rd.readsF_cons rfl (Rd.reads_string Tryd.underlying9 (by kernel_rfl)) (Rd.readsF_cons rfl (show Rd.Reads Tryd.prog 41 (Kd.slice 122 k122) (fun l_ : List (S122) => l_.length * 32 ≤ reachBytes ∧ l_.length ≤ 9223372036854775807 ∧ ∀ a ∈ l_, ok122 a) from (Rd.reads_slice Tryd.underlying41 (by kernel_rfl) rd122).imp (fun l_ h_ => ⟨(show Tryd.prog.bytesOf 122 = 32 from by kernel_rfl) ▸ h_.1, h_.2⟩)) (Rd.readsF_cons rfl (Rd.reads_string Tryd.underlying9 (by kernel_rfl)) (Rd.readsF_cons rfl (Rd.reads_int Tryd.underlying3 (by kernel_rfl)) (Rd.readsF_one rfl (show Rd.Reads Tryd.prog 31 (Kd.slice 3 (Kd.int .i64)) (fun l_ : List Int => l_.length * 8 ≤ reachBytes ∧ l_.length ≤ 9223372036854775807 ∧ ∀ a ∈ l_, (fun x_ : Int => (Lit.int .i64 x_).wf = true) a) from (Rd.reads_slice Tryd.underlying31 (by kernel_rfl) (Rd.reads_int Tryd.underlying3 (by kernel_rfl))).imp (fun l_ h_ => ⟨(show Tryd.prog.bytesOf 3 = 8 from by kernel_rfl) ▸ h_.1, h_.2⟩))))))))).iso (fun x : S43 => (x.f0, x.f1, x.f2, x.f3, x.f4, x.f5)) (fun p_ => ⟨p_.1, p_.2.1, p_.2.2.1, p_.2.2.2.1, p_.2.2.2.2.1, p_.2.2.2.2.2⟩) (fun _ => rfl)).imp (fun _ h_ => h_)
def ok24 (x_ : S24) : Prop := (fun l_ : List (S43) => l_.length * 96 ≤ reachBytes ∧ l_.length ≤ 9223372036854775807 ∧ ∀ a ∈ l_, ok43 a) x_.f0 ∧ (fun _ : Bool => True) x_.f1
theorem rd24 : Rd.Reads Tryd.prog 24 k24 ok24 :=
  ((Rd.reads_struct Tryd.underlying24 (by kernel_rfl) (Rd.readsF_cons rfl (show Rd.Reads Tryd.prog 22 (Kd.slice 43 k43) (fun l_ : List (S43) => l_.length * 96 ≤ reachBytes ∧ l_.length ≤ 9223372036854775807 ∧ ∀ a ∈ l_, ok43 a) from (Rd.reads_slice Tryd.underlying22 (by kernel_rfl) rd43).imp (fun l_ h_ => ⟨(show Tryd.prog.bytesOf 43 = 96 from by kernel_rfl) ▸ h_.1, h_.2⟩)) (Rd.readsF_one rfl (Rd.reads_bool Tryd.underlying4 (by kernel_rfl))))).iso (fun x : S24 => (x.f0, x.f1)) (fun p_ => ⟨p_.1, p_.2⟩) (fun _ => rfl)).imp (fun _ h_ => h_)
def ok50 (x_ : S50) : Prop := (fun x_ : Int => (Lit.int .i64 x_).wf = true) x_.f0 ∧ (fun x_ : Int => (Lit.int .i64 x_).wf = true) x_.f1
theorem rd50 : Rd.Reads Tryd.prog 50 k50 ok50 :=
  ((Rd.reads_struct Tryd.underlying50 (by kernel_rfl) (Rd.readsF_cons rfl (Rd.reads_int Tryd.underlying3 (by kernel_rfl)) (Rd.readsF_one rfl (Rd.reads_int Tryd.underlying3 (by kernel_rfl))))).iso (fun x : S50 => (x.f0, x.f1)) (fun p_ => ⟨p_.1, p_.2⟩) (fun _ => rfl)).imp (fun _ h_ => h_)
def ok52 (x_ : S52) : Prop := ok50 x_.f0 ∧ ok50 x_.f1
theorem rd52 : Rd.Reads Tryd.prog 52 k52 ok52 :=
  ((Rd.reads_struct Tryd.underlying52 (by kernel_rfl) (Rd.readsF_cons rfl rd50 (Rd.readsF_one rfl rd50))).iso (fun x : S52 => (x.f0, x.f1)) (fun p_ => ⟨p_.1, p_.2⟩) (fun _ => rfl)).imp (fun _ h_ => h_)
def clerestorylaw1_SpanCuts.Pure : Prop := ∀ (l0_0 : List (S43)) (a0_1 : Bool) (a1_0 : Int) (a1_1 : Int) (a1_2 : Int) (a1_3 : Int), (fun l_ : List (S43) => l_.length * 96 ≤ reachBytes ∧ l_.length ≤ 9223372036854775807 ∧ ∀ a ∈ l_, ok43 a) l0_0 → (fun _ : Bool => True) a0_1 → (fun x_ : Int => (Lit.int .i64 x_).wf = true) a1_0 → (fun x_ : Int => (Lit.int .i64 x_).wf = true) a1_1 → (fun x_ : Int => (Lit.int .i64 x_).wf = true) a1_2 → (fun x_ : Int => (Lit.int .i64 x_).wf = true) a1_3 → ∃ k, clerestorylaw1_SpanCuts.f k l0_0 a0_1 a1_0 a1_1 a1_2 a1_3 = some true
end Go.Proofs.YthjnallbbhnndaaDoor.XSp
namespace Go.Proofs.YthjnallbbhnndaaDoor.Dm
open Go Go.RowKit Go.Proofs.YthjnallbbhnndaaDoor.XSp Go.Proofs.YthjnallbbhnndaaDoorW.PrintWords Go.Proofs.YthjnallbbhnndaaDoorW.PrintLast Go.Proofs.YthjnallbbhnndaaDoorW.PrintMore
set_option maxRecDepth 100000
theorem few_of_form (l0 : List S43) (q : Bool) (most : Int) (hm : 0 ≤ most ∧ most ≤ 1000) (hl : l0.length * 96 ≤ reachBytes ∧ l0.length ≤ 9223372036854775807 ∧ ∀ a ∈ l0, ok43 a) :
    ∃ ns, clerestorylaw1_few.f l0 q most = some (ns, q) ∧ (ns.length : Int) ≤ most ∧ SmallN ns ∧ KidsLe ns 17592186044416 := by
  obtain ⟨ns, hns⟩ : ∃ ns, l0.take (mn (l0.length : Int) most).toNat = ns := ⟨_, rfl⟩
  have hmn : 0 ≤ mn (l0.length : Int) most ∧ mn (l0.length : Int) most ≤ (l0.length : Int) ∧ mn (l0.length : Int) most ≤ most := by unfold mn; split <;> omega
  refine ⟨ns, ?_, by rw [← hns, List.length_take]; omega, ?_⟩
  · unfold clerestorylaw1_few.f
    rw [if_pos hmn.1, if_pos hmn.2.1, hns]
  have hok : ∀ a ∈ ns, ok43 a := fun a ha => hl.2.2 a (by rw [← hns] at ha; exact List.mem_of_mem_take ha)
  have hz : smallA (z43).f2 ∧ (z43).f1.size ≤ 140737488355328 ∧ (z43).f5.length ≤ 17592186044416 := ⟨fun x hx => by simp [z43] at hx, by decide, by decide⟩
  have hall : ∀ i : Int, smallA (q00 ns i).f2 ∧ (q00 ns i).f1.size ≤ 140737488355328 ∧ (q00 ns i).f5.length ≤ 17592186044416 := by
    intro i
    unfold q00
    by_cases c : i.toNat < ns.length
    · have e : ns.getD i.toNat z43 = ns[i.toNat] := by simp [List.getD, c]
      rw [e]
      obtain ⟨_, h1, h2, _, _, h5⟩ := hok _ (List.getElem_mem c)
      unfold reachBytes at h1 h2 h5
      refine ⟨fun x hx => ?_, by omega, by have := h5.1; omega⟩
      have := (h2.2.2 x hx).1
      unfold reachBytes at this
      omega
    · have e : ns.getD i.toNat z43 = z43 := by simp [List.getD, c]
      rw [e]
      exact hz
  exact ⟨fun i => ⟨(hall i).1, (hall i).2.1⟩, fun i => (hall i).2.2⟩
theorem both_check (ns : List S43) (q : Bool) (hS : SmallN ns) (hK : KidsLe ns 17592186044416) : ∃ K, ∀ k, K < k → dom_Check.f k ns q = some (docE ns) ∧ clerestoryref1_DocErr.f k ns q = some (docE ns) :=
  ⟨2 * ns.length + rounds ns 17592186044416, fun k hk => ⟨check_eq ns q hS 17592186044416 (by decide) hK k hk, docErr_eq ns q 17592186044416 (by decide) hK k hk⟩⟩
theorem some_cut (a : ByteArray) : ∃ t, clerestorylaw1_some.f a 30 = some t := by
  have hmn : 0 ≤ mn (a.size : Int) 30 ∧ mn (a.size : Int) 30 ≤ (a.size : Int) := by unfold mn; split <;> omega
  unfold clerestorylaw1_some.f
  rw [if_pos hmn.1, if_pos hmn.2]
  exact ⟨_, rfl⟩
theorem brief_l0 (n0 : List S43) (q : Bool) (d : Nat) : ∀ (i : Nat) (x : List S43), i + d = x.length → x.length ≤ 1000 → SmallN x → KidsLe x 17592186044416 →
    ∃ ns, (∀ k, d < k → clerestorylaw1_brief.l0 k x (i : Int) n0 q = some (ns, q)) ∧ ns.length = x.length ∧ SmallN ns ∧ KidsLe ns 17592186044416 := by
  induction d with
  | zero =>
    intro i x hi hl hS hK
    refine ⟨x, fun k hk => ?_, rfl, hS, hK⟩
    obtain ⟨k, rfl⟩ : ∃ z, k = z + 1 := ⟨k - 1, by omega⟩
    rw [clerestorylaw1_brief.l0, if_neg (by omega)]
  | succ d ih =>
    intro i x hi hl hS hK
    obtain ⟨t, ht⟩ := some_cut (q00 x (i : Int)).f3
    have hrd : ∀ j : Int, q00 (x.set i ⟨(q00 x i).f0, (q00 x i).f1, (q00 x i).f2, t, (q00 x i).f4, (q00 x i).f5⟩) j = ⟨(q00 x i).f0, (q00 x i).f1, (q00 x i).f2, t, (q00 x i).f4, (q00 x i).f5⟩ ∨ q00 (x.set i ⟨(q00 x i).f0, (q00 x i).f1, (q00 x i).f2, t, (q00 x i).f4, (q00 x i).f5⟩) j = q00 x j := fun j => by
      unfold q00
      simp only [List.getD_eq_getElem?_getD, List.getElem?_set]
      by_cases e : i = j.toNat
      · rw [if_pos e, if_pos (by omega)]
        exact .inl rfl
      · rw [if_neg e]
        exact .inr rfl
    obtain ⟨ns, h1, h2, h3, h4⟩ := ih (i + 1) (x.set i ⟨(q00 x i).f0, (q00 x i).f1, (q00 x i).f2, t, (q00 x i).f4, (q00 x i).f5⟩) (by rw [List.length_set]; omega) (by rw [List.length_set]; exact hl)
      (fun j => by
        rcases hrd j with e | e
        · rw [e]; exact hS i
        · rw [e]; exact hS j)
      (fun j => by
        unfold kidL
        rcases hrd j with e | e
        · rw [e]; exact hK i
        · rw [e]; exact hK j)
    refine ⟨ns, fun k hk => ?_, by rw [h2, List.length_set], h3, h4⟩
    obtain ⟨k, rfl⟩ : ∃ z, k = z + 1 := ⟨k - 1, by omega⟩
    rw [clerestorylaw1_brief.l0, if_pos (by omega), if_pos (by omega), ht, Option.bind_some, w1 i (by omega)]
    exact h1 k (by omega)
theorem brief_of_form (l0 : List S43) (q : Bool) (hl : l0.length * 96 ≤ reachBytes ∧ l0.length ≤ 9223372036854775807 ∧ ∀ a ∈ l0, ok43 a) :
    ∃ ns, (∀ k, 30 < k → clerestorylaw1_brief.f k l0 q = some (ns, q)) ∧ ns.length ≤ 25 ∧ SmallN ns ∧ KidsLe ns 17592186044416 := by
  obtain ⟨n0, hf, hlen, hS, hK⟩ := few_of_form l0 q 25 (by omega) hl
  obtain ⟨ns, h1, h2, h3, h4⟩ := brief_l0 n0 q n0.length 0 n0 (by omega) (by omega) hS hK
  refine ⟨ns, fun k hk => ?_, by omega, h3, h4⟩
  unfold clerestorylaw1_brief.f
  rw [hf, Option.bind_some, Option.bind_some, if_pos (by simp only [List.length_nil]; omega), List.nil_append]
  exact h1 k (by omega)
end Go.Proofs.YthjnallbbhnndaaDoor.Dm
namespace Go.Proofs.YthjnallbbhnndaaDoor.Dm
open Go Go.RowKit Go.Proofs.YthjnallbbhnndaaDoor.XSp Go.Proofs.YthjnallbbhnndaaDoorW.PrintWords Go.Proofs.YthjnallbbhnndaaDoorW.PrintLast
structure Tree (ns : List S43) : Prop where
  many : ns.length ≤ 200
  some_ : 0 < ns.length
  root : par ns 0 = -1
  kid : ∀ i c : Int, 0 ≤ i → i < ns.length → c ∈ kidL ns i → 0 ≤ c ∧ c < ns.length ∧ par ns c = i
  once : ∀ i : Int, 0 ≤ i → i < ns.length → (kidL ns i).Nodup
  up : ∀ i : Int, 0 ≤ i → i < ns.length → par ns i = -1 ∨ (0 ≤ par ns i ∧ par ns i < ns.length ∧ i ∈ kidL ns (par ns i))
  deep : ∀ i : Int, 0 ≤ i → i < ns.length → q0s ns i ≤ 40 ∧ q0s ns i ≤ ns.length
theorem mem_hasK (l : List Int) (x : Int) : hasK l x = true ↔ x ∈ l := by
  unfold hasK
  rw [List.any_eq_true]
  constructor
  · rintro ⟨y, hy, h⟩
    obtain rfl := of_decide_eq_true h
    exact hy
  · intro h
    exact ⟨x, h, decide_eq_true rfl⟩
theorem kidsE_once {ns : List S43} {i : Int} : ∀ {l pre : List Int}, kidsE ns i pre l = 0 → l.Nodup ∧ ∀ c ∈ l, hasK pre c = false
  | [], _, _ => ⟨List.nodup_nil, fun c hc => by simp at hc⟩
  | x :: t, pre, h => by
    rw [kidsE_cons] at h
    by_cases hb : q1g ns i pre x = true
    · rw [if_pos hb] at h; cases h
    · rw [if_neg hb] at h
      have hr := kidBad_range hb
      by_cases h7 : i = 0 ∧ (q00 ns x).f0 = 3
      · rw [if_pos h7] at h; cases h
      · rw [if_neg h7] at h
        obtain ⟨h1, h2⟩ := kidsE_once h
        have hx : x ∉ t := fun hx => by
          have := h2 x hx
          rw [(hasK_snoc pre x x).2 (.inl rfl)] at this
          cases this
        refine ⟨List.nodup_cons.2 ⟨hx, h1⟩, fun c hc => ?_⟩
        rcases List.mem_cons.1 hc with rfl | hc
        · exact hr.2.2.2
        · have h3 := h2 c hc
          cases hp : hasK pre c
          · rfl
          · rw [(hasK_snoc pre x c).2 (.inr hp)] at h3
            cases h3
theorem kidsL_ok {ns : List S43} : ∀ {d i : Nat}, kidsL ns d i = 0 → ∀ j : Nat, i ≤ j → j < i + d → kidsE ns (j : Int) [] (kidL ns (j : Int)) = 0
  | 0, i, _, j, h1, h2 => by omega
  | d + 1, i, h, j, h1, h2 => by
    obtain ⟨ha, hb⟩ := orE_eq_zero (show orE (kidsE ns (i : Int) [] (kidL ns (i : Int))) (kidsL ns d (i + 1)) = 0 from h)
    by_cases e : j = i
    · subst e; exact ha
    · exact kidsL_ok hb j (by omega) (by omega)
theorem upsE_ok {ns : List S43} : ∀ {d i : Nat}, upsE ns d i = 0 → ∀ j : Nat, i ≤ j → j < i + d → q0s ns (j : Int) ≤ 40 ∧ q0s ns (j : Int) ≤ ns.length
  | 0, i, _, j, h1, h2 => by omega
  | d + 1, i, h, j, h1, h2 => by
    rw [upsE_succ] at h
    by_cases c : ns.length < q0s ns (i : Int)
    · rw [if_pos c] at h; cases h
    · rw [if_neg c] at h
      by_cases c' : 40 < q0s ns (i : Int)
      · rw [if_pos c'] at h; cases h
      · rw [if_neg c'] at h
        by_cases e : j = i
        · subst e; omega
        · exact upsE_ok h j (by omega) (by omega)
theorem tree_of {ns : List S43} (h : docE ns = 0) : Tree ns := by
  unfold docE at h
  by_cases c : 200 < ns.length
  · rw [if_pos c] at h; cases h
  · rw [if_neg c] at h
    by_cases c0 : ns.length = 0
    · rw [if_pos c0] at h; cases h
    · rw [if_neg c0] at h
      obtain ⟨_, h⟩ := orE_eq_zero h
      obtain ⟨hk, hu⟩ := orE_eq_zero h
      obtain ⟨hk, hp⟩ := orE_eq_zero (show orE (kidsL ns ns.length 0) (q1s ns ns.length 0) = 0 from hk)
      have nat : ∀ i : Int, 0 ≤ i → ((i.toNat : Nat) : Int) = i := fun i h0 => by omega
      refine ⟨by omega, by omega, (parsE_ok hp).1, fun i c h0 h1 hc => ?_, fun i h0 h1 => ?_, fun i h0 h1 => ?_, fun i h0 h1 => ?_⟩
      · have := kidsL_ok hk i.toNat (Nat.zero_le _) (by omega)
        rw [nat i h0] at this
        exact kidsE_ok this c hc
      · have := kidsL_ok hk i.toNat (Nat.zero_le _) (by omega)
        rw [nat i h0] at this
        exact (kidsE_once this).1
      · have := (parsE_ok hp).2 i.toNat (Nat.zero_le _) (by omega)
        rw [nat i h0] at this
        rcases parBad_ok this with h | h
        · exact .inl h
        · exact .inr ⟨h.1, h.2.1, (mem_hasK _ _).1 h.2.2⟩
      · have := upsE_ok hu i.toNat (Nat.zero_le _) (by omega)
        rw [nat i h0] at this
        exact this
theorem deepN_stab (ns : List S43) : ∀ (d : Nat) (i : Int), q1z ns d i < d → q1z ns (d + 1) i = q1z ns d i
  | 0, _, h => absurd h (Nat.not_lt_zero _)
  | d + 1, i, h => by
    rw [show q1z ns (d + 2) i = if par ns i ≥ 0 then 1 + q1z ns (d + 1) (par ns i) else 0 from rfl]
    rw [show q1z ns (d + 1) i = if par ns i ≥ 0 then 1 + q1z ns d (par ns i) else 0 from rfl] at h ⊢
    by_cases c : par ns i ≥ 0
    · rw [if_pos c] at h ⊢
      rw [if_pos c, deepN_stab ns d (par ns i) (by omega)]
    · rw [if_neg c, if_neg c]
theorem deep_up {ns : List S43} (h : Tree ns) {i : Int} (h0 : 0 ≤ i) (h1 : i < ns.length) (hp : 0 ≤ par ns i) : q0s ns i = q0s ns (par ns i) + 1 := by
  have hd := (h.deep i h0 h1).2
  unfold q0s at hd ⊢
  rw [show q1z ns (ns.length + 1) i = if par ns i ≥ 0 then 1 + q1z ns ns.length (par ns i) else 0 from rfl, if_pos hp] at hd ⊢
  rw [deepN_stab ns ns.length (par ns i) (by omega)]
  omega
theorem q0x {ns : List S43} (h : Tree ns) {i c : Int} (h0 : 0 ≤ i) (h1 : i < ns.length) (hc : c ∈ kidL ns i) : q0s ns c = q0s ns i + 1 := by
  obtain ⟨c0, c1, cp⟩ := h.kid i c h0 h1 hc
  rw [deep_up h c0 c1 (by omega), cp]
theorem deep_root {ns : List S43} (_h : Tree ns) {i : Int} (hp : par ns i < 0) : q0s ns i = 0 := by
  unfold q0s
  rw [show q1z ns (ns.length + 1) i = if par ns i ≥ 0 then 1 + q1z ns ns.length (par ns i) else 0 from rfl, if_neg (by omega)]
def upN (ns : List S43) : Nat → Int → Int
  | 0, x => x
  | d + 1, x => upN ns d (par ns x)
theorem upN_succ (ns : List S43) : ∀ (d : Nat) (x : Int), upN ns (d + 1) x = par ns (upN ns d x)
  | 0, _ => rfl
  | d + 1, x => upN_succ ns d (par ns x)
def pre (ns : List S43) : Nat → Int → List Int
  | 0, _ => []
  | d + 1, i => i :: (kidL ns i).flatMap (pre ns d)
def sub (ns : List S43) (i : Int) : List Int := pre ns (41 - q0s ns i) i
theorem flatMap_congr {α β : Type} {f g : α → List β} : ∀ {l : List α}, (∀ x ∈ l, f x = g x) → l.flatMap f = l.flatMap g
  | [], _ => rfl
  | x :: t, h => by
    rw [List.flatMap_cons, List.flatMap_cons, h x (by simp), flatMap_congr fun y hy => h y (by simp [hy])]
theorem q1h {ns : List S43} (h : Tree ns) {i : Int} (h0 : 0 ≤ i) (h1 : i < ns.length) : sub ns i = i :: (kidL ns i).flatMap (sub ns) := by
  have hd := (h.deep i h0 h1).1
  obtain ⟨m, hm⟩ : ∃ m, 41 - q0s ns i = m + 1 := ⟨40 - q0s ns i, by omega⟩
  have e : sub ns i = i :: (kidL ns i).flatMap (pre ns m) := by unfold sub; rw [hm]; rfl
  rw [e]
  congr 1
  refine flatMap_congr fun c hc => ?_
  unfold sub
  rw [q0x h h0 h1 hc, show 41 - (q0s ns i + 1) = m by omega]
theorem sub_mem {ns : List S43} (h : Tree ns) : ∀ (d : Nat) (i : Int), 41 - q0s ns i ≤ d → 0 ≤ i → i < ns.length → ∀ x ∈ sub ns i, 0 ≤ x ∧ x < ns.length ∧ q0s ns i ≤ q0s ns x ∧ upN ns (q0s ns x - q0s ns i) x = i
  | 0, i, hd, h0, h1, x, hx => by
    have := (h.deep i h0 h1).1
    omega
  | d + 1, i, hd, h0, h1, x, hx => by
    rw [q1h h h0 h1] at hx
    rcases List.mem_cons.1 hx with rfl | hx
    · exact ⟨h0, h1, Nat.le_refl _, by rw [Nat.sub_self]; rfl⟩
    · obtain ⟨c, hc, hx⟩ := List.mem_flatMap.1 hx
      obtain ⟨c0, c1, cp⟩ := h.kid i c h0 h1 hc
      have hk := q0x h h0 h1 hc
      have hdi := (h.deep i h0 h1).1
      obtain ⟨x0, x1, x2, x3⟩ := sub_mem h d c (by omega) c0 c1 x hx
      refine ⟨x0, x1, by omega, ?_⟩
      rw [show q0s ns x - q0s ns i = (q0s ns x - q0s ns c) + 1 by omega, upN_succ, x3, cp]
theorem q0r {ns : List S43} (h : Tree ns) {i : Int} (h0 : 0 ≤ i) (h1 : i < ns.length) {x : Int} (hx : x ∈ sub ns i) : 0 ≤ x ∧ x < ns.length ∧ q0s ns i ≤ q0s ns x ∧ upN ns (q0s ns x - q0s ns i) x = i :=
  sub_mem h _ i (Nat.le_refl _) h0 h1 x hx
theorem nodup_flat {f : Int → List Int} : ∀ {l : List Int}, l.Nodup → (∀ c ∈ l, (f c).Nodup) → (∀ c ∈ l, ∀ c' ∈ l, ∀ x, x ∈ f c → x ∈ f c' → c = c') → (l.flatMap f).Nodup
  | [], _, _, _ => List.nodup_nil
  | c :: t, h, hf, hd => by
    rw [List.flatMap_cons]
    obtain ⟨hc, ht⟩ := List.nodup_cons.1 h
    refine List.nodup_append.2 ⟨hf c (by simp), nodup_flat ht (fun y hy => hf y (by simp [hy])) (fun y hy z hz x h1 h2 => hd y (by simp [hy]) z (by simp [hz]) x h1 h2), fun x hx y hy e => ?_⟩
    subst e
    obtain ⟨z, hz, hxz⟩ := List.mem_flatMap.1 hy
    exact hc (hd c (by simp) z (by simp [hz]) x hx hxz ▸ hz)
theorem sub_once {ns : List S43} (h : Tree ns) : ∀ (d : Nat) (i : Int), 41 - q0s ns i ≤ d → 0 ≤ i → i < ns.length → (sub ns i).Nodup
  | 0, i, hd, h0, h1 => by
    have := (h.deep i h0 h1).1
    omega
  | d + 1, i, hd, h0, h1 => by
    rw [q1h h h0 h1]
    have hdi := (h.deep i h0 h1).1
    refine List.nodup_cons.2 ⟨fun hi => ?_, nodup_flat (h.once i h0 h1) (fun c hc => ?_) fun c hc c' hc' x hx hx' => ?_⟩
    · obtain ⟨c, hc, hx⟩ := List.mem_flatMap.1 hi
      obtain ⟨c0, c1, _⟩ := h.kid i c h0 h1 hc
      have := (q0r h c0 c1 hx).2.2.1
      have := q0x h h0 h1 hc
      omega
    · obtain ⟨c0, c1, _⟩ := h.kid i c h0 h1 hc
      exact sub_once h d c (by have := q0x h h0 h1 hc; omega) c0 c1
    · obtain ⟨c0, c1, _⟩ := h.kid i c h0 h1 hc
      obtain ⟨c0', c1', _⟩ := h.kid i c' h0 h1 hc'
      have e := (q0r h c0 c1 hx).2.2.2
      have e' := (q0r h c0' c1' hx').2.2.2
      rw [q0x h h0 h1 hc] at e
      rw [q0x h h0 h1 hc'] at e'
      exact e.symm.trans e'
theorem sub_nodup {ns : List S43} (h : Tree ns) {i : Int} (h0 : 0 ≤ i) (h1 : i < ns.length) : (sub ns i).Nodup := sub_once h _ i (Nat.le_refl _) h0 h1
theorem few_of : ∀ (n : Nat) (l : List Int), l.Nodup → (∀ x ∈ l, 0 ≤ x ∧ x < n) → l.length ≤ n
  | 0, [], _, _ => Nat.le_refl _
  | 0, x :: t, _, h => by have := h x (by simp); omega
  | n + 1, l, hn, h => by
    have h2 : (l.filter (fun x => decide (x ≠ (n : Int)))).length ≤ n := by
      refine few_of n _ (hn.filter _) fun x hx => ?_
      have hx := List.mem_filter.1 hx
      have := h x hx.1
      have := of_decide_eq_true hx.2
      omega
    have h3 : l.length ≤ (l.filter (fun x => decide (x ≠ (n : Int)))).length + 1 := by
      clear h h2
      induction l with
      | nil => simp
      | cons x t ih =>
        obtain ⟨hx, ht⟩ := List.nodup_cons.1 hn
        by_cases e : x = (n : Int)
        · have : t.filter (fun x => decide (x ≠ (n : Int))) = t := by
            refine List.filter_eq_self.2 fun y hy => decide_eq_true fun e' => hx ?_
            rw [e, ← e']
            exact hy
          rw [List.filter_cons_of_neg (by simp [e]), this]
          simp
        · rw [List.filter_cons_of_pos (by simp [e])]
          have := ih ht
          simp only [List.length_cons]
          omega
    omega
theorem sub_few {ns : List S43} (h : Tree ns) {i : Int} (h0 : 0 ≤ i) (h1 : i < ns.length) : (sub ns i).length ≤ ns.length :=
  few_of _ _ (sub_nodup h h0 h1) fun _ hx => ⟨(q0r h h0 h1 hx).1, (q0r h h0 h1 hx).2.1⟩
def kindN (ns : List S43) (i : Int) : Int := (q00 ns i).f0
structure DocOk (ns : List S43) : Prop where
  many : ns.length ≤ 200
  some_ : 0 < ns.length
  node : ∀ i : Int, 0 ≤ i → i < ns.length → nodeE (q00 ns i) = 0
  kind : ∀ i : Int, 0 ≤ i → i < ns.length → (kindN ns i = 1 ↔ i = 0)
  root : par ns 0 = -1
  kid : ∀ i c : Int, 0 ≤ i → i < ns.length → c ∈ kidL ns i → 0 ≤ c ∧ c < ns.length ∧ par ns c = i
  once : ∀ i : Int, 0 ≤ i → i < ns.length → (kidL ns i).Nodup
  text : ∀ c : Int, c ∈ kidL ns 0 → kindN ns c ≠ 3
  up : ∀ i : Int, 0 ≤ i → i < ns.length → par ns i = -1 ∨ (0 ≤ par ns i ∧ par ns i < ns.length ∧ i ∈ kidL ns (par ns i))
  deep : ∀ i : Int, 0 ≤ i → i < ns.length → q0s ns i ≤ 40 ∧ q0s ns i ≤ ns.length
theorem DocOk.tree {ns : List S43} (h : DocOk ns) : Tree ns := ⟨h.many, h.some_, h.root, h.kid, h.once, h.up, h.deep⟩
theorem orE_iff {a b : Int} : orE a b = 0 ↔ a = 0 ∧ b = 0 := ⟨orE_eq_zero, fun h => by rw [h.1, q1y, h.2]⟩
theorem rootBad_iff (ns : List S43) (i : Nat) : q1r ns i = false ↔ (kindN ns (i : Int) = 1 ↔ (i : Int) = 0) := by
  unfold q1r kindN
  by_cases h1 : (q00 ns (i : Int)).f0 = 1 <;> by_cases h2 : i = 0 <;> simp [h1, h2]
theorem nodesE_iff (ns : List S43) : ∀ d i : Nat, nodesE ns d i = 0 ↔ ∀ j : Nat, i ≤ j → j < i + d → q1r ns j = false ∧ nodeE (q00 ns (j : Int)) = 0
  | 0, i => ⟨fun _ j h1 h2 => by omega, fun _ => rfl⟩
  | d + 1, i => by
    rw [nodesE_succ]
    cases c : q1r ns i with
    | true =>
      rw [if_pos rfl]
      refine ⟨fun h => (by cases h), fun h => ?_⟩
      have := (h i (Nat.le_refl _) (by omega)).1
      rw [c] at this
      cases this
    | false =>
      rw [if_neg (by decide), orE_iff, nodesE_iff ns d (i + 1)]
      refine ⟨fun h j h1 h2 => ?_, fun h => ⟨(h i (Nat.le_refl _) (by omega)).2, fun j h1 h2 => h j (by omega) (by omega)⟩⟩
      by_cases e : j = i
      · subst e; exact ⟨c, h.1⟩
      · exact h.2 j (by omega) (by omega)
theorem hasK_false (l : List Int) (x : Int) : hasK l x = false ↔ x ∉ l := by rw [← mem_hasK]; simp
theorem kidBad_false (ns : List S43) (i : Int) (pre : List Int) (c : Int) : q1g ns i pre c = false ↔ 0 ≤ c ∧ c < ns.length ∧ par ns c = i ∧ c ∉ pre := by
  rw [← hasK_false]
  unfold q1g
  simp [Int.not_lt]
theorem kidsE_iff (ns : List S43) (i : Int) : ∀ l pre : List Int, kidsE ns i pre l = 0 ↔ (∀ c ∈ l, 0 ≤ c ∧ c < ns.length ∧ par ns c = i ∧ c ∉ pre ∧ (i = 0 → kindN ns c ≠ 3)) ∧ l.Nodup
  | [], pre => ⟨fun _ => ⟨fun c hc => by simp at hc, List.nodup_nil⟩, fun _ => rfl⟩
  | x :: t, pre => by
    rw [kidsE_cons]
    cases hb : q1g ns i pre x with
    | true =>
      rw [if_pos rfl]
      refine ⟨fun h => (by cases h), fun h => ?_⟩
      have h1 := h.1 x (by simp)
      have := (kidBad_false ns i pre x).2 ⟨h1.1, h1.2.1, h1.2.2.1, h1.2.2.2.1⟩
      rw [hb] at this
      cases this
    | false =>
      have hk := (kidBad_false ns i pre x).1 hb
      rw [if_neg (by decide)]
      by_cases h7 : i = 0 ∧ (q00 ns x).f0 = 3
      · rw [if_pos h7]
        exact ⟨fun h => (by cases h), fun h => absurd h7.2 ((h.1 x (by simp)).2.2.2.2 h7.1)⟩
      · rw [if_neg h7, kidsE_iff ns i t (pre ++ [x]), List.nodup_cons]
        constructor
        · rintro ⟨h1, h2⟩
          refine ⟨fun c hc => ?_, fun hx => ?_, h2⟩
          · rcases List.mem_cons.1 hc with rfl | hc
            · exact ⟨hk.1, hk.2.1, hk.2.2.1, hk.2.2.2, fun e h3 => h7 ⟨e, h3⟩⟩
            · have := h1 c hc
              exact ⟨this.1, this.2.1, this.2.2.1, fun hp => this.2.2.2.1 (List.mem_append_left _ hp), this.2.2.2.2⟩
          · exact (h1 x hx).2.2.2.1 (by simp)
        · rintro ⟨h1, hx, h2⟩
          refine ⟨fun c hc => ?_, h2⟩
          have := h1 c (by simp [hc])
          refine ⟨this.1, this.2.1, this.2.2.1, fun hp => ?_, this.2.2.2.2⟩
          rcases List.mem_append.1 hp with hp | hp
          · exact this.2.2.2.1 hp
          · rw [List.mem_singleton] at hp
            subst hp
            exact hx hc
theorem kidsL_iff (ns : List S43) : ∀ d i : Nat, kidsL ns d i = 0 ↔ ∀ j : Nat, i ≤ j → j < i + d → kidsE ns (j : Int) [] (kidL ns (j : Int)) = 0
  | 0, i => ⟨fun _ j h1 h2 => by omega, fun _ => rfl⟩
  | d + 1, i => by
    rw [show kidsL ns (d + 1) i = orE (kidsE ns (i : Int) [] (kidL ns (i : Int))) (kidsL ns d (i + 1)) from rfl, orE_iff, kidsL_iff ns d (i + 1)]
    refine ⟨fun h j h1 h2 => ?_, fun h => ⟨h i (Nat.le_refl _) (by omega), fun j h1 h2 => h j (by omega) (by omega)⟩⟩
    by_cases e : j = i
    · subst e; exact h.1
    · exact h.2 j (by omega) (by omega)
theorem parsE_iff (ns : List S43) : ∀ d i : Nat, q1s ns d i = 0 ↔ par ns 0 = -1 ∧ ∀ j : Nat, i ≤ j → j < i + d → q1i ns (j : Int) = false
  | 0, i => by
    show (if par ns 0 = -1 then (0 : Int) else 3) = 0 ↔ _
    by_cases c : par ns 0 = -1
    · rw [if_pos c]
      exact ⟨fun _ => ⟨c, fun j h1 h2 => by omega⟩, fun _ => rfl⟩
    · rw [if_neg c]
      exact ⟨fun h => (by cases h), fun h => absurd h.1 c⟩
  | d + 1, i => by
    rw [show q1s ns (d + 1) i = if q1i ns (i : Int) = true then 3 else q1s ns d (i + 1) from rfl]
    cases c : q1i ns (i : Int) with
    | true =>
      rw [if_pos rfl]
      refine ⟨fun h => (by cases h), fun h => ?_⟩
      have := h.2 i (Nat.le_refl _) (by omega)
      rw [c] at this
      cases this
    | false =>
      rw [if_neg (by decide), parsE_iff ns d (i + 1)]
      refine ⟨fun h => ⟨h.1, fun j h1 h2 => ?_⟩, fun h => ⟨h.1, fun j h1 h2 => h.2 j (by omega) (by omega)⟩⟩
      by_cases e : j = i
      · subst e; exact c
      · exact h.2 j (by omega) (by omega)
theorem parBad_false (ns : List S43) (i : Int) : q1i ns i = false ↔ par ns i = -1 ∨ (0 ≤ par ns i ∧ par ns i < ns.length ∧ i ∈ kidL ns (par ns i)) := by
  rw [← mem_hasK]
  unfold q1i
  by_cases c : par ns i = -1
  · simp [c]
  · simp [c]
theorem upsE_iff (ns : List S43) : ∀ d i : Nat, upsE ns d i = 0 ↔ ∀ j : Nat, i ≤ j → j < i + d → q0s ns (j : Int) ≤ 40 ∧ q0s ns (j : Int) ≤ ns.length
  | 0, i => ⟨fun _ j h1 h2 => by omega, fun _ => rfl⟩
  | d + 1, i => by
    rw [upsE_succ]
    by_cases c : ns.length < q0s ns (i : Int)
    · rw [if_pos c]
      refine ⟨fun h => (by cases h), fun h => ?_⟩
      have := h i (Nat.le_refl _) (by omega)
      omega
    · rw [if_neg c]
      by_cases c' : 40 < q0s ns (i : Int)
      · rw [if_pos c']
        refine ⟨fun h => (by cases h), fun h => ?_⟩
        have := h i (Nat.le_refl _) (by omega)
        omega
      · rw [if_neg c', upsE_iff ns d (i + 1)]
        refine ⟨fun h j h1 h2 => ?_, fun h j h1 h2 => h j (by omega) (by omega)⟩
        by_cases e : j = i
        · subst e; omega
        · exact h j (by omega) (by omega)
theorem docE_iff (ns : List S43) : docE ns = 0 ↔ DocOk ns := by
  have nat : ∀ i : Int, 0 ≤ i → ((i.toNat : Nat) : Int) = i := fun i h0 => by omega
  constructor
  · intro h
    have ht := tree_of h
    unfold docE at h
    rw [if_neg (by have := ht.many; omega), if_neg (by have := ht.some_; omega), orE_iff, orE_iff] at h
    obtain ⟨hn, hk, hu⟩ := h
    obtain ⟨hk, hp⟩ := orE_iff.1 (show orE (kidsL ns ns.length 0) (q1s ns ns.length 0) = 0 from hk)
    have hn := (nodesE_iff ns _ _).1 hn
    have hk := (kidsL_iff ns _ _).1 hk
    refine ⟨ht.many, ht.some_, fun i h0 h1 => ?_, fun i h0 h1 => ?_, ht.root, ht.kid, ht.once, fun c hc => ?_, ht.up, ht.deep⟩
    · have := (hn i.toNat (Nat.zero_le _) (by omega)).2
      rwa [nat i h0] at this
    · have := (rootBad_iff ns i.toNat).1 (hn i.toNat (Nat.zero_le _) (by omega)).1
      rwa [nat i h0] at this
    · have := hk 0 (Nat.le_refl _) (by have := ht.some_; omega)
      exact (((kidsE_iff ns _ _ _).1 this).1 c hc).2.2.2.2 rfl
  · intro h
    unfold docE
    rw [if_neg (by have := h.many; omega), if_neg (by have := h.some_; omega), orE_iff, orE_iff]
    refine ⟨(nodesE_iff ns _ _).2 fun j _ hj => ⟨(rootBad_iff ns j).2 (h.kind j (by omega) (by omega)), h.node j (by omega) (by omega)⟩, orE_iff.2 ⟨(kidsL_iff ns _ _).2 fun j _ hj => (kidsE_iff ns _ _ _).2 ⟨fun c hc => ?_, h.once j (by omega) (by omega)⟩, (parsE_iff ns _ _).2 ⟨h.root, fun j _ hj => (parBad_false ns j).2 (h.up j (by omega) (by omega))⟩⟩, (upsE_iff ns _ _).2 fun j _ hj => h.deep j (by omega) (by omega)⟩
    obtain ⟨c0, c1, c2⟩ := h.kid j c (by omega) (by omega) hc
    refine ⟨c0, c1, c2, by simp, fun e => ?_⟩
    rw [e] at hc
    exact h.text c hc
end Go.Proofs.YthjnallbbhnndaaDoor.Dm
namespace Go.Proofs.YthjnallbbhnndaaDoor.XSp
open Go.Proofs.YthjnallbbhnndaaDoor.Short Go.RowKit Go.Proofs.YthjnallbbhnndaaDoorW.PrintWords Go.Proofs.YthjnallbbhnndaaDoorW.PrintLast Go.Proofs.YthjnallbbhnndaaDoorW.PrintMore
attribute [local go_sem] max2_int min2_int max_two min_two q1n q1m max_four min_four   -- for this text's walks alone
set_option linter.unusedVariables false
set_option linter.unusedSimpArgs false
end Go.Proofs.YthjnallbbhnndaaDoor.XSp
namespace Go.Proofs.YthjnallbbhnndaaDoor.Dm
open Go Go.RowKit Go.Proofs.YthjnallbbhnndaaDoor.XSp Go.Proofs.YthjnallbbhnndaaDoorW.PrintWords Go.Proofs.YthjnallbbhnndaaDoorW.PrintLast
def idx : List Int → Int → Nat
  | [], _ => 0
  | y :: t, x => if y = x then 0 else idx t x + 1
theorem idx_mid : ∀ (U V : List Int) (x : Int), x ∉ U → idx (U ++ x :: V) x = U.length
  | [], V, x, _ => by simp [idx]
  | u :: U, V, x, h => by
    have h1 : ¬ u = x := fun e => h (by simp [e])
    have h2 : x ∉ U := fun e => h (by simp [e])
    rw [List.cons_append, idx, if_neg h1, idx_mid U V x h2]
    rfl
theorem rd_mid (U V : List Int) (x : Int) : rd (U ++ x :: V) (U.length : Int) = x := by
  simp [rd, List.getD]
def hdI : List Int → Int
  | [] => -1
  | b :: _ => b
def lsI (l : List Int) : Int := l.getLast?.getD (-1)
theorem lsI_snoc (l : List Int) (x : Int) : lsI (l ++ [x]) = x := by simp [lsI]
theorem lsI_app (l m : List Int) (h : m ≠ []) : lsI (l ++ m) = lsI m := by
  unfold lsI
  rw [List.getLast?_append]
  cases hm : m.getLast? with
  | none => exact absurd (List.getLast?_eq_none_iff.1 hm) h
  | some a => rfl
def q1t (ns : List S43) (x by_ : Int) : Int :=
  if par ns x < 0 then -1 else
    if (idx (kidL ns (par ns x)) x : Int) + by_ < 0 ∨ (idx (kidL ns (par ns x)) x : Int) + by_ ≥ ((kidL ns (par ns x)).length : Int) then -1 else rd (kidL ns (par ns x)) ((idx (kidL ns (par ns x)) x : Int) + by_)
def overI (ns : List S43) : Nat → Int → Int
  | 0, _ => -1
  | d + 1, x => if q1t ns x 1 ≥ 0 then q1t ns x 1 else if par ns x < 0 then -1 else overI ns d (par ns x)
def lastD (ns : List S43) : Nat → Int → Int
  | 0, x => x
  | d + 1, x => if (kidL ns x).length = 0 then x else lastD ns d (rd (kidL ns x) ((kidL ns x).length - 1 : Int))
def lastI (ns : List S43) (x : Int) : Int := if q1t ns x (-1) < 0 then par ns x else lastD ns (41 - q0s ns (q1t ns x (-1))) (q1t ns x (-1))
theorem sub_ne {ns : List S43} (h : Tree ns) {i : Int} (h0 : 0 ≤ i) (h1 : i < ns.length) : sub ns i ≠ [] := by rw [q1h h h0 h1]; simp
theorem last_sub {ns : List S43} (h : Tree ns) : ∀ (d : Nat) (i : Int), 41 - q0s ns i = d → 0 ≤ i → i < ns.length → lsI (sub ns i) = lastD ns d i
  | 0, i, hd, h0, h1 => by
    have := (h.deep i h0 h1).1
    omega
  | d + 1, i, hd, h0, h1 => by
    rw [q1h h h0 h1, lastD]
    by_cases c : (kidL ns i).length = 0
    · rw [if_pos c, List.eq_nil_of_length_eq_zero c]
      rfl
    · rw [if_neg c]
      obtain ⟨U, u, hU⟩ : ∃ U u, kidL ns i = U ++ [u] := ⟨(kidL ns i).dropLast, (kidL ns i).getLast (fun e => c (by rw [e]; rfl)), (List.dropLast_concat_getLast _).symm⟩
      have hm : u ∈ kidL ns i := by rw [hU]; simp
      obtain ⟨u0, u1, _⟩ := h.kid i u h0 h1 hm
      have hk := q0x h h0 h1 hm
      rw [hU]
      have e1 : rd (U ++ [u]) (((U ++ [u]).length : Int) - 1) = u := by
        rw [show (((U ++ [u]).length : Int) - 1) = (U.length : Int) by simp]
        exact rd_mid U [] u
      rw [e1, List.flatMap_append, List.flatMap_cons, List.flatMap_nil, List.append_nil, ← List.cons_append, lsI_app _ _ (sub_ne h u0 u1), last_sub h d u (by omega) u0 u1]
theorem way {ns : List S43} (h : Tree ns) : ∀ (d : Nat) (x : Int), q0s ns x = d → 0 ≤ x → x < ns.length → upN ns d x = 0 →
    ∃ A B, sub ns 0 = A ++ sub ns x ++ B ∧ overI ns (d + 1) x = hdI B ∧ lastI ns x = lsI A
  | 0, x, hd, h0, h1, hu => by
    obtain rfl : x = 0 := hu
    have hb : ∀ b, q1t ns 0 b = -1 := fun b => by unfold q1t; rw [if_pos (by rw [h.root]; decide)]
    refine ⟨[], [], by simp, ?_, ?_⟩
    · rw [overI, hb, if_neg (by decide), h.root, if_pos (by decide)]
      rfl
    · unfold lastI
      rw [hb, if_pos (by decide), h.root]
      rfl
  | d + 1, x, hd, h0, h1, hu => by
    have hp : ¬ par ns x < 0 := fun hp => by
      have := deep_root h hp
      omega
    obtain ⟨p, hpe⟩ : ∃ p, par ns x = p := ⟨_, rfl⟩
    rcases h.up x h0 h1 with hr | ⟨p0, p1, hx⟩
    · omega
    have hdp := deep_up h h0 h1 p0
    rw [hpe] at p0 p1 hx hdp hp
    have hu' : upN ns d p = 0 := by
      have : upN ns (d + 1) x = upN ns d (par ns x) := rfl
      rw [hpe] at this
      rw [← this]
      exact hu
    obtain ⟨A, B, hs, ho, hl⟩ := way h d p (by omega) p0 p1 hu'
    obtain ⟨U, V, hk⟩ := List.append_of_mem hx
    have hn := h.once p p0 p1
    rw [hk] at hn
    have hxU : x ∉ U := fun hxU => by
      have := List.nodup_append.1 hn
      exact this.2.2 x hxU x (by simp) rfl
    have hix : idx (kidL ns p) x = U.length := by rw [hk]; exact idx_mid U V x hxU
    have hlen : (kidL ns p).length = U.length + 1 + V.length := by rw [hk]; simp; omega
    have bes : ∀ b, q1t ns x b = if (U.length : Int) + b < 0 ∨ (U.length : Int) + b ≥ ((U.length + 1 + V.length : Nat) : Int) then -1 else rd (U ++ x :: V) ((U.length : Int) + b) := by
      intro b
      unfold q1t
      rw [hpe, if_neg hp, hix, hlen, hk]
    refine ⟨A ++ p :: U.flatMap (sub ns), V.flatMap (sub ns) ++ B, ?_, ?_, ?_⟩
    · rw [hs, q1h h p0 p1, hk, List.flatMap_append, List.flatMap_cons]
      simp [List.append_assoc]
    · have step : overI ns (d + 1 + 1) x = if q1t ns x 1 ≥ 0 then q1t ns x 1 else if p < 0 then -1 else overI ns (d + 1) p := by rw [overI, hpe]
      rw [step]
      cases V with
      | nil =>
        have b1 : q1t ns x 1 = -1 := by
          rw [bes]
          exact if_pos (.inr (by simp))
        rw [b1, if_neg (by decide), if_neg hp, ho]
        rfl
      | cons v V =>
        have hv : v ∈ kidL ns p := by rw [hk]; simp
        obtain ⟨v0, v1, _⟩ := h.kid p v p0 p1 hv
        have e : rd (U ++ x :: v :: V) ((U.length : Int) + 1) = v := by
          have := rd_mid (U ++ [x]) V v
          rw [List.append_assoc] at this
          simpa using this
        have b1 : q1t ns x 1 = v := by
          rw [bes, if_neg (by simp only [List.length_cons]; omega), e]
        rw [b1, if_pos v0, List.flatMap_cons, q1h h v0 v1]
        rfl
    · unfold lastI
      rcases List.eq_nil_or_concat U with hU | ⟨U', u, hU⟩
      · subst hU
        have b1 : q1t ns x (-1) = -1 := by
          rw [bes]
          exact if_pos (.inl (by simp))
        rw [b1, if_pos (by decide), hpe, List.flatMap_nil]
        exact (lsI_snoc A p).symm
      · rw [List.concat_eq_append] at hU
        subst hU
        have hv : u ∈ kidL ns p := by rw [hk]; simp
        obtain ⟨u0, u1, _⟩ := h.kid p u p0 p1 hv
        have e : rd (U' ++ [u] ++ x :: V) (((U' ++ [u]).length : Int) + -1) = u := by
          have := rd_mid U' (x :: V) u
          rw [show (((U' ++ [u]).length : Int) + -1) = (U'.length : Int) by (simp only [List.length_append, List.length_cons, List.length_nil]; omega), List.append_assoc]
          exact this
        have b1 : q1t ns x (-1) = u := by
          rw [bes, if_neg (by simp only [List.length_append, List.length_cons, List.length_nil]; omega), e]
        rw [b1, if_neg (by omega), List.flatMap_append, List.flatMap_cons, List.flatMap_nil, List.append_nil, ← List.cons_append, ← List.append_assoc, lsI_app _ _ (sub_ne h u0 u1), last_sub h _ u rfl u0 u1]
theorem below_l0 {ns : List S43} (h : Tree ns) (q : Bool) (i : Int) (h0 : 0 ≤ i) (h1 : i < ns.length) (B : Nat) (H : ∀ c ∈ kidL ns i, ∀ k, B < k → clerestoryref1_Below.f k ns q c = some (sub ns c)) (d : Nat) : ∀ (j k : Nat) (o : List Int), j + d = (kidL ns i).length →
    o.length + ((kidL ns i).drop j |>.flatMap (sub ns)).length ≤ 1000 → B + d + 1 < k → clerestoryref1_Below.l0 k i o (j : Int) ns q = some (o ++ ((kidL ns i).drop j).flatMap (sub ns)) := by
  induction d with
  | zero =>
    intro j k o hj ho hk
    obtain ⟨k, rfl⟩ : ∃ z, k = z + 1 := ⟨k - 1, by omega⟩
    rw [clerestoryref1_Below.l0, if_pos h0, if_pos h1, show (q00 ns i).f5 = kidL ns i from rfl, if_neg (by omega), List.drop_eq_nil_of_le (by omega)]
    simp
  | succ d ih =>
    intro j k o hj ho hk
    obtain ⟨k, rfl⟩ : ∃ z, k = z + 1 := ⟨k - 1, by omega⟩
    have hlt : j < (kidL ns i).length := by omega
    have hjn : j ≤ 4611686018427387904 := by
      have := few_of ns.length (kidL ns i) (h.once i h0 h1) fun x hx => ⟨(h.kid i x h0 h1 hx).1, (h.kid i x h0 h1 hx).2.1⟩
      have := h.many
      omega
    have hd := dropK (kidL ns i) j hlt
    rw [hd, List.flatMap_cons, List.length_append] at ho
    have hm : rd (kidL ns i) (j : Int) ∈ kidL ns i := by
      have : rd (kidL ns i) (j : Int) ∈ (kidL ns i).drop j := by rw [hd]; simp
      exact List.mem_of_mem_drop this
    rw [clerestoryref1_Below.l0, if_pos h0, if_pos h1, show (q00 ns i).f5 = kidL ns i from rfl, if_pos (by omega), if_pos (by omega), H _ hm k (by omega), Option.bind_some, if_pos (by omega), w1 j hjn, ih (j + 1) k _ (by omega) (by rw [List.length_append]; omega) (by omega), hd, List.flatMap_cons, List.append_assoc]
theorem below_eq {ns : List S43} (h : Tree ns) (q : Bool) : ∀ (d : Nat) (i : Int), 41 - q0s ns i ≤ d → 0 ≤ i → i < ns.length → ∀ k, 210 * d < k → clerestoryref1_Below.f k ns q i = some (sub ns i)
  | 0, i, hd, h0, h1, k, hk => by
    have := (h.deep i h0 h1).1
    omega
  | d + 1, i, hd, h0, h1, k, hk => by
    obtain ⟨k, rfl⟩ : ∃ z, k = z + 1 := ⟨k - 1, by omega⟩
    have hn := few_of ns.length (kidL ns i) (h.once i h0 h1) fun x hx => ⟨(h.kid i x h0 h1 hx).1, (h.kid i x h0 h1 hx).2.1⟩
    have hm := h.many
    have hl := sub_few h h0 h1
    rw [q1h h h0 h1, List.length_cons] at hl
    rw [clerestoryref1_Below.f, q1h h h0 h1]
    have := below_l0 h q i h0 h1 (210 * d) (fun c hc k hk => by
      obtain ⟨c0, c1, _⟩ := h.kid i c h0 h1 hc
      have hdk := q0x h h0 h1 hc
      have hdi := (h.deep i h0 h1).1
      exact below_eq h q d c (by omega) c0 c1 k hk) (kidL ns i).length 0 k [i] (by omega) (by rw [List.drop_zero]; simp only [List.length_cons, List.length_nil]; omega) (by omega)
    rw [List.drop_zero] at this
    exact this
theorem below_all {ns : List S43} (h : Tree ns) (q : Bool) (i : Int) (h0 : 0 ≤ i) (h1 : i < ns.length) (k : Nat) (hk : 8610 < k) : clerestoryref1_Below.f k ns q i = some (sub ns i) := below_eq h q 41 i (by omega) h0 h1 k (by omega)
end Go.Proofs.YthjnallbbhnndaaDoor.Dm
