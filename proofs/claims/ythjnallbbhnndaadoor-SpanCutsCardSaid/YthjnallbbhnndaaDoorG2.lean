/- Written by this session's program (wip/xp) out of the translation as Lean prints it: for each Go function a Lean function and the proof that the code answers just so, on the conditions named in each statement. -/
import Derived.Test.YthjnallbbhnndaaDoorG1
namespace Go.Proofs.YthjnallbbhnndaaDoor.XSp
open Go.Proofs.YthjnallbbhnndaaDoor.Short Go.RowKit Go.Proofs.YthjnallbbhnndaaDoorW.PrintWords Go.Proofs.YthjnallbbhnndaaDoorW.PrintLast Go.Proofs.YthjnallbbhnndaaDoorW.PrintMore
attribute [local go_sem] max2_int min2_int max_two min_two q1n q1m max_four min_four   -- for this text's walks alone
set_option linter.unusedVariables false
set_option linter.unusedSimpArgs false
attribute [local go_sem high] eqA50
mutual
def clerestoryref1_marks.l0 : Nat → Int → List (S50) → Int → List (S43) → Bool → Int → ByteArray → List (S122) → ByteArray → Int → List Int → Option ((List (S50)))
 | 0, _, _, _, _, _, _, _, _, _, _, _ => none
 | k + 1, x1, x6, x7, x173000, x173001, x175000, x175001, x175002, x175003, x175004, x175005 => if x7 < (x175005.length : Int) then (if 0 ≤ x7 then ((clerestoryref1_marks.f k x173000 x173001 (rd x175005 x7)).bind fun t179 => (if x6.length + t179.length < 8796093022208 then ((some (x6 ++ t179 : List (S50))).bind fun y182 => (if y182.length < 8796093022208 then (clerestoryref1_marks.l0 k x1 (y182 ++ [(⟨x1, wrap64 (x7 + 1)⟩ : S50)]) (wrap64 (x7 + 1)) x173000 x173001 x175000 x175001 x175002 x175003 x175004 x175005) else (none))) else (none))) else (none)) else (clerestoryref1_marks.l1 k x1 x6 1 x175000 x175001 x175002 x175003 x175004 x175005)
def clerestoryref1_marks.l1 : Nat → Int → List (S50) → Int → Int → ByteArray → List (S122) → ByteArray → Int → List Int → Option ((List (S50)))
 | 0, _, _, _, _, _, _, _, _, _ => none
 | k + 1, x1, x6, x8, x175000, x175001, x175002, x175003, x175004, x175005 => if x8 ≤ (x175003.size : Int) then (if x175000 = 5 then (some x6) else (if x6.length < 8796093022208 then (clerestoryref1_marks.l1 k x1 (x6 ++ [(⟨x1, x8⟩ : S50)]) (wrap64 (x8 + 1)) x175000 x175001 x175002 x175003 x175004 x175005) else (none))) else (some x6)
def clerestoryref1_marks.f : Nat → List (S43) → Bool → Int → Option ((List (S50)))
 | 0, _, _, _ => none
 | k + 1, l0_0, a0_1, a1 => if 0 ≤ a1 then (if a1 < (l0_0.length : Int) then (clerestoryref1_marks.l0 k a1 (([(⟨a1, 0⟩ : S50)] : List (S50))) 0 l0_0 a0_1 ((q00 l0_0 a1).f0) ((q00 l0_0 a1).f1) ((q00 l0_0 a1).f2) ((q00 l0_0 a1).f3) ((q00 l0_0 a1).f4) ((q00 l0_0 a1).f5)) else (none)) else (none)
end
def clerestoryref1_marks.T6 : Bool × List (List Nat × List Nat) := (true, [([], []), ([], []), ([], []), ([2], [2]), ([], []), ([3, 4], [3, 4]), ([5], [5]), ([1, 6], [1, 6]), ([0, 7, 7], [0, 7]), ([8, 8, 0, 1, 2, 3, 4, 5, 6, 7, 8], [0, 8])])
def clerestoryref1_marks.B6 : List Nat := [0, 0, 0, 4, 0, 28, 60, 126, 255, 511]
theorem clerestoryref1_marks.tab6 : rtab .any (opsOf Tryd.f90 6) = clerestoryref1_marks.T6 := by kernel_rfl
theorem clerestoryref1_marks.bits6 : waitsOk clerestoryref1_marks.T6.2 clerestoryref1_marks.B6 = true := by kernel_rfl
set_option maxHeartbeats 8000000 in
set_option maxRecDepth 100000 in
theorem clerestoryref1_marks.calls (k : Nat) : ∀ (A0_0 : Option Addr) (c0_0 : Nat) (l0_0 : List (S43)) (a0_1 : Bool) (a1 : Int) (r : List (S50)) (w : World) (hr0_0 : Kd.C k43 w A0_0 l0_0.length l0_0) (hc0_0 : l0_0.length ≤ c0_0) (h : clerestoryref1_marks.f k l0_0 a0_1 a1 = some r),
 Calls Tryd.prog 90 #[.agg #[.slice A0_0 l0_0.length c0_0, .bool a0_1], .int .i64 a1] w fun e w' => ∃ v0_ : Value, e = .returned (v0_) ∧ Kd.R k50 50 w' w.heap.size (fun _ => True) v0_ r ∧ Below w.heap.size w w' := by
 induction k using Nat.strongRecOn with
 | _ k ih =>
 intro A0_0 c0_0 l0_0 a0_1 a1 r w hr0_0 hc0_0 h
 cases k with
 | zero => exact absurd h (by simp [clerestoryref1_marks.f])
 | succ k =>
 simp only [clerestoryref1_marks.f] at h
 have hu24 := Tryd.underlying24
 have hu43 := Tryd.underlying43
 have hu50 := Tryd.underlying50
 have HR0_0 := aS hr0_0
 have HC0_0 := aS hc0_0
 clear hr0_0 hc0_0
 have HB := aS (Below.refl w.heap.size w)
 have H := h; clear h; unfold clerestoryref1_marks.f at H
 refine iLp H ?_; clear H; intro c3b0 H
 refine iTp H ?_; clear H; intro c4b0 H
 obtain ⟨y175, hy175⟩ : ∃ y_ : List (S50), y_ = (([(⟨a1, 0⟩ : S50)] : List (S50))) := ⟨_, rfl⟩
 replace H : (clerestoryref1_marks.l0 k a1 y175 0 l0_0 a0_1 ((q00 l0_0 a1).f0) ((q00 l0_0 a1).f1) ((q00 l0_0 a1).f2) ((q00 l0_0 a1).f3) ((q00 l0_0 a1).f4) ((q00 l0_0 a1).f5)) = some r := by first | (rw [hy175]; with_reducible exact H) | (have H2_ := (Option.bind_some _ _).symm.trans H; rw [hy175]; with_reducible exact H2_) | (have H2_ := (Option.bind_some _ _).symm.trans H; with_reducible exact H2_) | with_reducible exact H | (rw [hy175]; exact H) | exact H
 have Ny175 := aS hy175
 clear hy175
 have H' := aS H
 clear H
 go_enter Tryd.func90, Tryd.ntmps90
 go_wp2_with (first | ((with_reducible refine q07 (N := 2) rfl ?_); refine box0 rfl (N := 2) rfl (cs := #[.slice A0_0 l0_0.length c0_0, .bool a0_1]) (t := 24) zh (z7 HB.out) ?_; clear HB; intro gb172 w5 BK172 GW172 HB; have GE172 := GW172; obtain ⟨hczL_0, hczL_1, hfzL_0, hfzL_1⟩ := bk2 BK172.out; obtain ⟨ad173, A173_2, c173_2, A173_5, c173_5, e173, hx173_0, hx173_1, hx173_2, hx173_3, hx173_4, hx173_5, HC173_2, HR173_2, HC173_5, HR173_5, p173, q173⟩ := q0o HB.out HR0_0.out a1 zb zb; cases e173) | ((with_reducible refine q07 (N := 5) rfl ?_); refine q0j ?hg (N := 5) ?hd (cs := #[.int .i64 0, .string (⟨#[]⟩ : ByteArray), .slice none 0 0, .string (⟨#[]⟩ : ByteArray), .int .i64 0, .slice none 0 0]) (t := 43) ?hr ?_; (case hd => rfl); (case hg => rfl); (case hr => first | (go_simp; done) | (go_simp; rfl)); intro gb174 hg w7 hbox hb; have n0_ := aS (q01 (g := gb172) (o := .cells #[.slice (some ad173) l0_0.length c0_0, .bool a0_1] 24 (0, 0)) (za BK172.out) hb); have n1_ := aS (q02 (z6 HB.out GE172.out) hb); have n2_ := aS (hbox); have n3_ := aS ((by rw [hg]; exact (q06 (z6 HB.out GE172.out)) : w.heap.size ≤ gb174)); have n4_ := aS ((by rw [hg]; exact (q06 (z6 HB.out GE172.out)) : w.heap.size ≤ gb174)); have n5_ := aS ((by rw [hg]; exact Nat.ne_of_lt (q0i (g := gb172) (o := .cells #[.slice (some ad173) l0_0.length c0_0, .bool a0_1] 24 (0, 0)) (za BK172.out)) : gb172 ≠ gb174)); have n6_ := aS ((by rw [hg]; exact Nat.ne_of_gt (q0i (g := gb172) (o := .cells #[.slice (some ad173) l0_0.length c0_0, .bool a0_1] 24 (0, 0)) (za BK172.out)) : gb174 ≠ gb172)); clear BK172; clear HB; have BK172 := n0_; have HB := n1_; have BK174 := n2_; have GW174 := n3_; have GE174 := n4_; have NB172_174 := n5_; have NB174_172 := n6_; clear n0_ n1_ n2_ n3_ n4_ n5_ n6_; clear hb hbox hg; have hnb8 := NB174_172.out; have hnc8 := NB172_174.out; obtain ⟨hczL_0, hczL_1, hczL_2, hczL_3, hczL_4, hczL_5, hfzL_0, hfzL_1, hfzL_2, hfzL_3, hfzL_4, hfzL_5⟩ := bk6 BK174.out) | ((with_reducible refine q07 (N := 16) rfl ?_); refine Kd.R_lit k50 _ 50 ?hg (N := 16) ?hd (xs := ([(⟨a1, 0⟩ : S50)] : List (S50))) (inner := [.int .i64 a1, .int .i64 0]) (ok := fun _ => True) (okp := fun _ => True) ?hr ?hp (fun _ hk => hk) trivial (Below.refl _ _) (Nat.le_refl _) (by simp) ?_; (case hd => rfl); (case hg => rfl); (case hr => first | (go_simp; done) | (go_simp; rfl)); (case hp => exact (Reps.c2 (show Kd.M k50 _ _ _ (⟨a1, 0⟩ : S50) [.int .i64 a1, .int .i64 0] from (k50_mkM _ _ _ (⟨a1, 0⟩ : S50) )) (Reps.none _ _))); intro v176 w10 ho11 hb hg_ hnew_; clear hg_ hnew_; (first | rw [← Ny175.out] at ho11 | (simp only [Int.reduceToNat] at ho11; rw [← Ny175.out] at ho11)); have HO177 := aS (Kd.R_lower ho11 (q06 (by repeat (first | (with_reducible first | exact HB.out | apply bA | apply bN | apply bD | refine bS ?_ GE172.out | refine bS ?_ GE174.out) | exact HB.out)))); replace BK172 := aS (q01 (g := gb172) (o := .cells #[.slice (some ad173) l0_0.length c0_0, .bool a0_1] 24 (0, 0)) (by (with_reducible repeat (first | refine kN ?_ _ | refine kD ?_ | refine kA ?_ _)); refine q0d ?_ NB172_174.out _; (with_reducible repeat (first | refine kN ?_ _ | refine kD ?_ | refine kA ?_ _)); refine q0d ?_ NB172_174.out _; (with_reducible repeat (first | refine kN ?_ _ | refine kD ?_ | refine kA ?_ _)); refine q0d ?_ NB172_174.out _; (with_reducible repeat (first | refine kN ?_ _ | refine kD ?_ | refine kA ?_ _)); refine q0d ?_ NB172_174.out _; (with_reducible repeat (first | refine kN ?_ _ | refine kD ?_ | refine kA ?_ _)); refine q0d ?_ NB172_174.out _; (with_reducible repeat (first | refine kN ?_ _ | refine kD ?_ | refine kA ?_ _)); refine q0d ?_ NB172_174.out _; (with_reducible repeat (first | refine kN ?_ _ | refine kD ?_ | refine kA ?_ _)); exact BK172.out) hb); replace BK174 := aS (q01 (g := gb174) (o := .cells #[.int .i64 ((q00 l0_0 a1).f0), .string ((q00 l0_0 a1).f1), .slice A173_2 ((q00 l0_0 a1).f2).length c173_2, .string ((q00 l0_0 a1).f3), .int .i64 ((q00 l0_0 a1).f4), .slice A173_5 ((q00 l0_0 a1).f5).length c173_5] 43 (0, 0)) (by (with_reducible repeat (first | refine kN ?_ _ | refine kD ?_ | refine kA ?_ _)); refine q0h (cs := #[.int .i64 ((q00 l0_0 a1).f0), .string ((q00 l0_0 a1).f1), .slice A173_2 ((q00 l0_0 a1).f2).length c173_2, .string ((q00 l0_0 a1).f3), .int .i64 ((q00 l0_0 a1).f4), .slice none 0 0]) ?_ 5 _ rfl; (with_reducible repeat (first | refine kN ?_ _ | refine kD ?_ | refine kA ?_ _)); refine q0h (cs := #[.int .i64 ((q00 l0_0 a1).f0), .string ((q00 l0_0 a1).f1), .slice A173_2 ((q00 l0_0 a1).f2).length c173_2, .string ((q00 l0_0 a1).f3), .int .i64 0, .slice none 0 0]) ?_ 4 _ rfl; (with_reducible repeat (first | refine kN ?_ _ | refine kD ?_ | refine kA ?_ _)); refine q0h (cs := #[.int .i64 ((q00 l0_0 a1).f0), .string ((q00 l0_0 a1).f1), .slice A173_2 ((q00 l0_0 a1).f2).length c173_2, .string (⟨#[]⟩ : ByteArray), .int .i64 0, .slice none 0 0]) ?_ 3 _ rfl; (with_reducible repeat (first | refine kN ?_ _ | refine kD ?_ | refine kA ?_ _)); refine q0h (cs := #[.int .i64 ((q00 l0_0 a1).f0), .string ((q00 l0_0 a1).f1), .slice none 0 0, .string (⟨#[]⟩ : ByteArray), .int .i64 0, .slice none 0 0]) ?_ 2 _ rfl; (with_reducible repeat (first | refine kN ?_ _ | refine kD ?_ | refine kA ?_ _)); refine q0h (cs := #[.int .i64 ((q00 l0_0 a1).f0), .string (⟨#[]⟩ : ByteArray), .slice none 0 0, .string (⟨#[]⟩ : ByteArray), .int .i64 0, .slice none 0 0]) ?_ 1 _ rfl; (with_reducible repeat (first | refine kN ?_ _ | refine kD ?_ | refine kA ?_ _)); refine q0h (cs := #[.int .i64 0, .string (⟨#[]⟩ : ByteArray), .slice none 0 0, .string (⟨#[]⟩ : ByteArray), .int .i64 0, .slice none 0 0]) ?_ 0 _ rfl; (with_reducible repeat (first | refine kN ?_ _ | refine kD ?_ | refine kA ?_ _)); exact BK174.out) hb); replace HB := aS (q02 (by repeat (first | (with_reducible first | exact HB.out | apply bA | apply bN | apply bD | refine bS ?_ GE172.out | refine bS ?_ GE174.out) | exact HB.out)) hb); clear hb ho11))
 go_loopg [6, 7] k (fun kq v6 v7 w' => ∃ (x6_1 : List (S50)) (x7_1 : Int), v7 = .int .i64 x7_1 ∧ Aside0 (clerestoryref1_marks.l0 kq a1 x6_1 x7_1 l0_0 a0_1 ((q00 l0_0 a1).f0) ((q00 l0_0 a1).f1) ((q00 l0_0 a1).f2) ((q00 l0_0 a1).f3) ((q00 l0_0 a1).f4) ((q00 l0_0 a1).f5) = some r) ∧ Aside0 (kq ≤ k) ∧ Aside0 (Kd.R k50 50 w' w.heap.size (fun _ => True) v6 x6_1) ∧ Aside0 (w'.heap[gb172]? = some (.cells #[(.slice (some ad173) l0_0.length c0_0), .bool a0_1] 24 (0, 0))) ∧ Aside0 (w'.heap[gb174]? = some (.cells #[.int .i64 ((q00 l0_0 a1).f0), .string ((q00 l0_0 a1).f1), (.slice A173_2 ((q00 l0_0 a1).f2).length c173_2), .string ((q00 l0_0 a1).f3), .int .i64 ((q00 l0_0 a1).f4), (.slice A173_5 ((q00 l0_0 a1).f5).length c173_5)] 43 (0, 0))) ∧ Aside0 (Below w.heap.size w w'))
 case atStart => exact ⟨(y175), (0), zi, H', ⟨Nat.le_refl _⟩, ⟨by (with_reducible repeat (first | apply rA | apply rN | apply rD)); exact HO177.out⟩, ⟨by (with_reducible repeat (first | refine kN ?_ _ | refine kD ?_ | refine kA ?_ _)); exact BK172.out⟩, ⟨by (with_reducible repeat (first | refine kN ?_ _ | refine kD ?_ | refine kA ?_ _)); exact BK174.out⟩, ⟨by repeat (first | (with_reducible first | exact HB.out | apply bA | apply bN | apply bD | refine bS ?_ GE172.out | refine bS ?_ GE174.out) | exact HB.out)⟩⟩
 case round =>
  clear H'
  obtain ⟨x6_1, x7_1, rfl, HA, HK1, HO_6, BK172, BK174, HB⟩ := hrel
  cases gk with
  | zero => exact absurd HA.out (by simp [clerestoryref1_marks.l0])
  | succ k1 =>
   have H := HA.out
   clear HA
   simp only [clerestoryref1_marks.l0] at H
   refine iT H ?p12 ?n12 <;> clear H
   case' p12 =>
    intro c12b0 H
    refine iLp H ?_; clear H; intro c13b0 H
    replace H := iB H
    obtain ⟨t179, A14, H⟩ := H
    refine iGp H ?_; clear H; intro c15 H
    have LMc15 := aS c15
    clear c15
    obtain ⟨y182, hy182⟩ : ∃ y_ : List (S50), y_ = (x6_1 ++ t179) := ⟨_, rfl⟩
    replace H : (if y182.length < 8796093022208 then (clerestoryref1_marks.l0 k1 a1 (y182 ++ [(⟨a1, wrap64 (x7_1 + 1)⟩ : S50)]) (wrap64 (x7_1 + 1)) l0_0 a0_1 ((q00 l0_0 a1).f0) ((q00 l0_0 a1).f1) ((q00 l0_0 a1).f2) ((q00 l0_0 a1).f3) ((q00 l0_0 a1).f4) ((q00 l0_0 a1).f5)) else (none)) = some r := by first | (rw [hy182]; with_reducible exact H) | (have H2_ := (Option.bind_some _ _).symm.trans H; rw [hy182]; with_reducible exact H2_) | (have H2_ := (Option.bind_some _ _).symm.trans H; with_reducible exact H2_) | with_reducible exact H | (rw [hy182]; exact H) | exact H
    have Ny182 := aS hy182
    clear hy182
    refine iGp H ?_; clear H; intro c16 H
   case' n12 => intro c12b0 H
   case p12 =>
    have LMc16 := aS c16
    clear c16
    obtain ⟨y185, hy185⟩ : ∃ y_ : List (S50), y_ = (y182 ++ [(⟨a1, wrap64 (x7_1 + 1)⟩ : S50)]) := ⟨_, rfl⟩
    replace H : (clerestoryref1_marks.l0 k1 a1 y185 (wrap64 (x7_1 + 1)) l0_0 a0_1 ((q00 l0_0 a1).f0) ((q00 l0_0 a1).f1) ((q00 l0_0 a1).f2) ((q00 l0_0 a1).f3) ((q00 l0_0 a1).f4) ((q00 l0_0 a1).f5)) = some r := by first | (rw [hy185]; with_reducible exact H) | (have H2_ := (Option.bind_some _ _).symm.trans H; rw [hy185]; with_reducible exact H2_) | (have H2_ := (Option.bind_some _ _).symm.trans H; with_reducible exact H2_) | with_reducible exact H | (rw [hy185]; exact H) | exact H
    have Ny185 := aS hy185
    clear hy185
    have H' := aS H
    clear H
    have hnb17 := NB174_172.out
    have hnc17 := NB172_174.out
    obtain ⟨hczL_0, hczL_1, hczL_2, hczL_3, hczL_4, hczL_5, hfzL_0, hfzL_1, hfzL_2, hfzL_3, hfzL_4, hfzL_5⟩ := bk6 BK174.out
    try go_wp2
    have n0_ := aS (Kd.R_drew HO_6.out)
    have n1_ := aS (q0v BK172.out)
    have n2_ := aS (q0v BK174.out)
    have n3_ := aS (q0t HB.out)
    clear HO_6
    clear BK172
    clear BK174
    clear HB
    have HO_6 := n0_
    have BK172 := n1_
    have BK174 := n2_
    have HB := n3_
    clear n0_ n1_ n2_ n3_
    have p178 : 0 ≤ (x7_1 : Int) := od zb
    have q178 : x7_1 < (((q00 l0_0 a1).f5).length : Int) := od zb
    obtain ⟨ad178, e178, hx178_0⟩ := Kd.at_int HR173_5.out x7_1 p178 q178
    have hw178_0 := hx178_0
    cases e178
    replace hx178_0 := q0f HB.out hx178_0
    replace p178 := eq_true p178
    replace q178 := eq_true q178
    refine start_ (n := 10) (S := fun w' => w'.cell? ⟨gb172, 0, none⟩ = some (.slice (some ad173) l0_0.length c0_0) ∧ w'.cell? ⟨gb172, 1, none⟩ = some (.bool a0_1) ∧ w'.cell? ⟨gb174, 0, none⟩ = some (.int .i64 ((q00 l0_0 a1).f0)) ∧ w'.cell? ⟨gb174, 1, none⟩ = some (.string ((q00 l0_0 a1).f1)) ∧ w'.cell? ⟨gb174, 2, none⟩ = some (.slice A173_2 ((q00 l0_0 a1).f2).length c173_2) ∧ w'.cell? ⟨gb174, 3, none⟩ = some (.string ((q00 l0_0 a1).f3)) ∧ w'.cell? ⟨gb174, 4, none⟩ = some (.int .i64 ((q00 l0_0 a1).f4)) ∧ w'.cell? ⟨gb174, 5, none⟩ = some (.slice (some ad178) ((q00 l0_0 a1).f5).length c173_5) ∧ w'.cell? (ad178.add (x7_1).toNat) = some (.int .i64 (rd ((q00 l0_0 a1).f5) x7_1))) (ds := []) #[false, false, false, false, false, false, false, false, false, false] (by kernel_rfl) rfl rfl ⟨(q03 BK172.out 0).trans rfl, (q03 BK172.out 1).trans rfl, (q03 BK174.out 0).trans rfl, (q03 BK174.out 1).trans rfl, (q03 BK174.out 2).trans rfl, (q03 BK174.out 3).trans rfl, (q03 BK174.out 4).trans rfl, (q03 BK174.out 5).trans rfl, ((HB.out.cell (World.block_lt_of_cell? w _ hw178_0)).trans hw178_0)⟩ (fun hHeld => ?_); refine q14 clerestoryref1_marks.tab6 clerestoryref1_marks.bits6 (fun HT_ HW_ => ?_)
    generalize wr.drew = w19 at HO_6 BK172 BK174 HB hx178_0 hHeld ⊢
    refine q0e (i := 0) (N := some 24) (v := ?_) (a' := ?_) #[true, false, false, false, false, false, false, false, false, false] rfl rfl (q0b HT_.out (by kernel_rfl)) (fun _ _ _ h => h) (Or.inl ⟨by rfl, ?_⟩) ?_ ?_
    rotate_left
    ·intro w'
     go_simp
     with_reducible rfl
    rotate_left
    ·simp only [Act.put, s1, s2, s3, q09, q0a]
     rfl
    refine q0e (i := 2) (N := some 26) (v := ?_) (a' := ?_) #[true, false, true, false, false, false, false, false, false, false] rfl rfl (q0b HT_.out (by kernel_rfl)) (fun _ _ _ h => h) (Or.inl ⟨by rfl, ?_⟩) ?_ ?_
    rotate_left
    ·intro w'
     go_simp
     with_reducible rfl
    rotate_left
    ·simp only [Act.put, s1, s2, s3, q09, q0a]
     rfl
    refine q0e (i := 4) (N := some 28) (v := ?_) (a' := ?_) #[true, false, true, false, true, false, false, false, false, false] rfl rfl (q0b HT_.out (by kernel_rfl)) (fun _ _ _ h => h) (Or.inl ⟨by rfl, ?_⟩) ?_ ?_
    rotate_left
    ·intro w'
     go_simp
     with_reducible rfl
    rotate_left
    ·simp only [Act.put, s1, s2, s3, q09, q0a]
     rfl
    refine take_ (i := 1) (N := some 25) (v := ?_) (a' := ?_) #[true, true, true, false, true, false, false, false, false, false] rfl rfl (q0m HT_.out HW_.out (by kernel_rfl)) (fun _ _ _ h => h) (Or.inl ⟨by rfl, ?_⟩) hHeld ?_ ?_
    rotate_left
    ·rintro w' ⟨s0, s1, s2, s3, s4, s5, s6, s7, s8⟩
     go_simp
     with_reducible rfl
    rotate_left
    ·simp only [Act.put, s1, s2, s3, q09, q0a]
     rfl
    refine take_ (i := 3) (N := some 27) (v := ?_) (a' := ?_) #[true, true, true, true, true, false, false, false, false, false] rfl rfl (q0m HT_.out HW_.out (by kernel_rfl)) (fun _ _ _ h => h) (Or.inl ⟨by rfl, ?_⟩) hHeld ?_ ?_
    rotate_left
    ·rintro w' ⟨s0, s1, s2, s3, s4, s5, s6, s7, s8⟩
     go_simp
     with_reducible rfl
    rotate_left
    ·simp only [Act.put, s1, s2, s3, q09, q0a]
     rfl
    refine q0e (i := 5) (N := some 29) (v := ?_) (a' := ?_) #[true, true, true, true, true, true, false, false, false, false] rfl rfl (q0b HT_.out (by kernel_rfl)) (fun _ _ _ h => h) (Or.inl ⟨by rfl, ?_⟩) ?_ ?_
    rotate_left
    ·intro w'
     go_simp
     with_reducible rfl
    rotate_left
    ·simp only [Act.put, s1, s2, s3, q09, q0a]
     rfl
    refine take_ (i := 6) (N := some 30) (v := ?_) (a' := ?_) #[true, true, true, true, true, true, true, false, false, false] rfl rfl (q0m HT_.out HW_.out (by kernel_rfl)) (fun _ _ _ h => h) (Or.inl ⟨by rfl, ?_⟩) hHeld ?_ ?_
    rotate_left
    ·rintro w' ⟨s0, s1, s2, s3, s4, s5, s6, s7, s8⟩
     go_simp
     with_reducible rfl
    rotate_left
    ·simp only [Act.put, s1, s2, s3, q09, q0a]
     rfl
    refine one_ (i := 7) (N := some 31) #[true, true, true, true, true, true, true, true, false, false] rfl rfl (q1j HT_.out (by kernel_rfl)) (by decide) (fun K hK => ?_)
    refine goes_ Tryd.func90 (by kernel_rfl) rfl #[.agg #[.slice (some ad173) l0_0.length c0_0, .bool a0_1], .int .i64 (rd ((q00 l0_0 a1).f5) x7_1)] (by rfl) rfl rfl zc ?_
    with_reducible refine (ih k1 (by have := HK1.out; omega) _ _ l0_0 a0_1 (rd ((q00 l0_0 a1).f5) x7_1) t179 _ ?side1 ?side2 A14.out).mono ?_
    (case side1 => repeat (first | exact (Kd.C_below HR0_0.out HB.out) | (with_reducible refine cA ?_ _) | (with_reducible refine cN ?_ _) | (with_reducible refine cD ?_)))
    (case side2 => exact HC0_0.out)
    rintro e w20 ⟨v180, rfl, ho0, hb⟩
    refine ⟨_, rfl, ?_⟩
    have n0_ := aS (Kd.R_elder' (zf HO_6.out) (Kd.R_base ho0) hb)
    have n1_ := aS (Kd.R_lower (Kd.R_new' ho0 (Kd.R_lt (zf HO_6.out))) (q06 (by repeat (first | (with_reducible first | exact HB.out | apply bA | apply bN | apply bD | refine bS ?_ GE172.out | refine bS ?_ GE174.out) | exact HB.out))))
    have n2_ := aS (q01 (g := gb172) (o := .cells #[.slice (some ad173) l0_0.length c0_0, .bool a0_1] 24 (0, 0)) (za BK172.out) hb)
    have n3_ := aS (q01 (g := gb174) (o := .cells #[.int .i64 ((q00 l0_0 a1).f0), .string ((q00 l0_0 a1).f1), .slice A173_2 ((q00 l0_0 a1).f2).length c173_2, .string ((q00 l0_0 a1).f3), .int .i64 ((q00 l0_0 a1).f4), .slice (some ad178) ((q00 l0_0 a1).f5).length c173_5] 43 (0, 0)) (za BK174.out) hb)
    have n4_ := aS (q02 (by repeat (first | (with_reducible first | exact HB.out | apply bA | apply bN | apply bD | refine bS ?_ GE172.out | refine bS ?_ GE174.out) | exact HB.out)) hb)
    clear HO_6
    clear BK172
    clear BK174
    clear HB
    have HO_6 := n0_
    have HO181 := n1_
    have BK172 := n2_
    have BK174 := n3_
    have HB := n4_
    clear n0_ n1_ n2_ n3_ n4_
    (try clear hb)
    (try clear hb2)
    (try clear hk)
    (try clear hi)
    (try clear ho0)
    obtain ⟨Ao22, co22, eo22⟩ := Kd.R_slice HO181.out
    (first | subst eo22 | (injection eo22 with f1_ f2_ f3_; have f4_ := f1_.symm; have f5_ := f3_.symm; clear f1_ f2_ f3_; subst f4_; subst f5_))
    refine hK.out _ _ ⟨(q03 BK172.out 0).trans rfl, (q03 BK172.out 1).trans rfl, (q03 BK174.out 0).trans rfl, (q03 BK174.out 1).trans rfl, (q03 BK174.out 2).trans rfl, (q03 BK174.out 3).trans rfl, (q03 BK174.out 4).trans rfl, (q03 BK174.out 5).trans rfl, ((HB.out.cell (World.block_lt_of_cell? w _ hw178_0)).trans hw178_0)⟩ (fun hHeld => ?_)
    clear hK K
    refine norm_ (a' := ?_) ?_ ?_
    rotate_left
    ·show Act.put _ (some 31) _ = _
     simp only [Act.put, s1, s2, s3, q09, q0a]
     rfl
    refine one_ (i := 8) (N := some 32) #[true, true, true, true, true, true, true, true, true, false] rfl rfl (q1j HT_.out (by kernel_rfl)) (by decide) (fun K hK => ?_)
    refine Kd.R_append_rows_step k50 (w0 := w) w.heap.size (by rfl) (.tmp 24) (.tmp 31) 134 50 (.agg #[(.int .i64 0), (.int .i64 0)]) 16 rfl Tryd.underlying134 info50 rfl (by decide) (by omega) u6 x6_1 t179 _ _ _ (fun k_ => some k_ ≠ (.slice Ao22 t179.length co22 : Value).ownBlock) (fun _ => False) rfl rfl ?aO ?aR (fun _ _ h => h) (fun _ h => h.elim) ?aF ?aB ?aS ?aL ?_
    (case aR => repeat (first | exact (Kd.R_reads' HO181.out).2.2 | (with_reducible refine cA ?_ _) | (with_reducible refine cN ?_ _) | (with_reducible refine cD ?_)))
    (case aB => exact (by repeat (first | (with_reducible first | exact HB.out | apply bA | apply bN | apply bD | refine bS ?_ GE172.out | refine bS ?_ GE174.out) | exact HB.out)))
    (case aF => exact (fun k_ hk => Kd.fresh' (Kd.R_lt (zf HO181.out)) k_ hk))
    (case aO => exact (by (with_reducible repeat (first | apply rA | apply rN | apply rD)); exact Kd.R_mono HO_6.out (fun _ hk => hk.2)))
    (case aS => exact (q06 (by repeat (first | (with_reducible first | exact HB.out | apply bA | apply bN | apply bD | refine bS ?_ GE172.out | refine bS ?_ GE174.out) | exact HB.out))))
    (case aL => have := LMc15.out; omega)
    intro v183 w21 ho hb hg hat
    rw [← Ny182.out] at ho
    have n0_ := aS (q0q (g := gb172) (o := .cells #[.slice (some ad173) l0_0.length c0_0, .bool a0_1] 24 (0, 0)) (za BK172.out) hg (Kd.R_ne HO_6.out BK172.out (by decide)))
    have n1_ := aS (q0q (g := gb174) (o := .cells #[.int .i64 ((q00 l0_0 a1).f0), .string ((q00 l0_0 a1).f1), .slice A173_2 ((q00 l0_0 a1).f2).length c173_2, .string ((q00 l0_0 a1).f3), .int .i64 ((q00 l0_0 a1).f4), .slice (some ad178) ((q00 l0_0 a1).f5).length c173_5] 43 (0, 0)) (za BK174.out) hg (Kd.R_ne HO_6.out BK174.out (by decide)))
    have n2_ := aS (Kd.R_after (ok := (fun _ => True)) (zf HO181.out) hg hat)
    have n3_ := aS (hb)
    have n4_ := aS (ho)
    clear BK172
    clear BK174
    clear HO181
    clear HB
    clear HO_6
    have BK172 := n0_
    have BK174 := n1_
    have HO181 := n2_
    have HB := n3_
    have HO184 := n4_
    clear n0_ n1_ n2_ n3_ n4_
    clear ho hb hg hat
    refine hK.out _ _ ⟨(q03 BK172.out 0).trans rfl, (q03 BK172.out 1).trans rfl, (q03 BK174.out 0).trans rfl, (q03 BK174.out 1).trans rfl, (q03 BK174.out 2).trans rfl, (q03 BK174.out 3).trans rfl, (q03 BK174.out 4).trans rfl, (q03 BK174.out 5).trans rfl, ((HB.out.cell (World.block_lt_of_cell? w _ hw178_0)).trans hw178_0)⟩ (fun hHeld => ?_)
    clear hK K
    refine norm_ (a' := ?_) ?_ ?_
    rotate_left
    ·show Act.put _ (some 32) _ = _
     simp only [Act.put, s1, s2, s3, q09, q0a]
     rfl
    refine q0e (i := 9) (N := some 6) (v := ?_) (a' := ?_) #[true, true, true, true, true, true, true, true, true, true] rfl rfl (q0b HT_.out (by kernel_rfl)) (fun _ _ _ h => h) (Or.inl ⟨by rfl, ?_⟩) ?_ ?_
    rotate_left
    ·intro w'
     go_simp
     with_reducible rfl
    rotate_left
    ·simp only [Act.put, s1, s2, s3, q09, q0a]
     rfl
    refine done_ (q1l HT_.out (by kernel_rfl)) ?_
    try go_wp2_with (first | ((with_reducible refine q17 (b := .append) (xs := #[.tmp 33, .tmp 38]) rfl ?_); at_builtin; refine Kd.R_append k50 (w0 := w) w.heap.size rfl (.tmp 33) (.tmp 38) 134 50 (.agg #[(.int .i64 0), (.int .i64 0)]) 16 rfl Tryd.underlying134 info50 rfl (by decide) (by omega) v183 y182 (⟨a1, wrap64 (x7_1 + 1)⟩ : S50) [.int .i64 a1, .int .i64 (wrap64 (x7_1 + 1))] (fun k_ => some k_ ≠ (.slice Ao22 t179.length co22 : Value).ownBlock) (fun _ => False) rfl rfl ?aP (fun _ hk => hk.elim) ?aF ?aO ?aB ?aS ?aL ?_; (case aP => exact k50_mkM _ _ _ (⟨a1, wrap64 (x7_1 + 1)⟩ : S50)); (case aB => exact (by repeat (first | (with_reducible first | exact HB.out | apply bA | apply bN | apply bD | refine bS ?_ GE172.out | refine bS ?_ GE174.out) | exact HB.out))); (case aF => exact (fun k_ hk => Kd.fresh' (Kd.R_lt (zf HO181.out)) k_ hk)); (case aO => exact (zf HO184.out)); (case aS => exact (q06 (by repeat (first | (with_reducible first | exact HB.out | apply bA | apply bN | apply bD | refine bS ?_ GE172.out | refine bS ?_ GE174.out) | exact HB.out)))); (case aL => have := LMc16.out; omega); intro v186 w23 ho hb hg hat; rw [← Ny185.out] at ho; have n0_ := aS (q0q (g := gb172) (o := .cells #[.slice (some ad173) l0_0.length c0_0, .bool a0_1] 24 (0, 0)) (za BK172.out) hg (Kd.R_ne HO184.out BK172.out (by decide))); have n1_ := aS (q0q (g := gb174) (o := .cells #[.int .i64 ((q00 l0_0 a1).f0), .string ((q00 l0_0 a1).f1), .slice A173_2 ((q00 l0_0 a1).f2).length c173_2, .string ((q00 l0_0 a1).f3), .int .i64 ((q00 l0_0 a1).f4), .slice (some ad178) ((q00 l0_0 a1).f5).length c173_5] 43 (0, 0)) (za BK174.out) hg (Kd.R_ne HO184.out BK174.out (by decide))); have n2_ := aS (Kd.R_after (ok := (fun _ => True)) (zf HO181.out) hg hat); have n3_ := aS (hb); have n4_ := aS (ho); clear BK172; clear BK174; clear HO181; clear HB; clear HO184; have BK172 := n0_; have BK174 := n1_; have HO181 := n2_; have HB := n3_; have HO187 := n4_; clear n0_ n1_ n2_ n3_ n4_; clear ho hb hg hat))
    go_roundg k1
    case measure => have := HK1.out; omega
    case rel => exact ⟨(y185), (wrap64 (x7_1 + 1)), zi, H', ⟨by have := HK1.out; omega⟩, ⟨by (with_reducible repeat (first | apply rA | apply rN | apply rD)); exact Kd.R_mono HO187.out (fun _ hk => trivial)⟩, ⟨by (with_reducible repeat (first | refine kN ?_ _ | refine kD ?_ | refine kA ?_ _)); exact BK172.out⟩, ⟨by (with_reducible repeat (first | refine kN ?_ _ | refine kD ?_ | refine kA ?_ _)); exact BK174.out⟩, ⟨by repeat (first | (with_reducible first | exact HB.out | apply bA | apply bN | apply bD | refine bS ?_ GE172.out | refine bS ?_ GE174.out) | exact HB.out)⟩⟩
   case n12 =>
    have H' := aS H
    clear H
    have hnb24 := NB174_172.out
    have hnc24 := NB172_174.out
    obtain ⟨hczL_0, hczL_1, hczL_2, hczL_3, hczL_4, hczL_5, hfzL_0, hfzL_1, hfzL_2, hfzL_3, hfzL_4, hfzL_5⟩ := bk6 BK174.out
    go_wp2
    go_loopg [6, 8] k1 (fun kq v6 v8 w' => ∃ (x6_2 : List (S50)) (x8_2 : Int), v8 = .int .i64 x8_2 ∧ Aside0 (clerestoryref1_marks.l1 kq a1 x6_2 x8_2 ((q00 l0_0 a1).f0) ((q00 l0_0 a1).f1) ((q00 l0_0 a1).f2) ((q00 l0_0 a1).f3) ((q00 l0_0 a1).f4) ((q00 l0_0 a1).f5) = some r) ∧ Aside0 (kq ≤ k1) ∧ Aside0 (Kd.R k50 50 w' w.heap.size (fun _ => True) v6 x6_2) ∧ Aside0 (w'.heap[gb172]? = some (.cells #[(.slice (some ad173) l0_0.length c0_0), .bool a0_1] 24 (0, 0))) ∧ Aside0 (w'.heap[gb174]? = some (.cells #[.int .i64 ((q00 l0_0 a1).f0), .string ((q00 l0_0 a1).f1), (.slice A173_2 ((q00 l0_0 a1).f2).length c173_2), .string ((q00 l0_0 a1).f3), .int .i64 ((q00 l0_0 a1).f4), (.slice A173_5 ((q00 l0_0 a1).f5).length c173_5)] 43 (0, 0))) ∧ Aside0 (Below w.heap.size w w'))
    case atStart => exact ⟨(x6_1), (1), zi, H', ⟨Nat.le_refl _⟩, ⟨by (with_reducible repeat (first | apply rA | apply rN | apply rD)); exact HO_6.out⟩, ⟨by (with_reducible repeat (first | refine kN ?_ _ | refine kD ?_ | refine kA ?_ _)); exact BK172.out⟩, ⟨by (with_reducible repeat (first | refine kN ?_ _ | refine kD ?_ | refine kA ?_ _)); exact BK174.out⟩, ⟨by repeat (first | (with_reducible first | exact HB.out | apply bA | apply bN | apply bD | refine bS ?_ GE172.out | refine bS ?_ GE174.out) | exact HB.out)⟩⟩
    case round =>
     clear H'
     obtain ⟨x6_2, x8_2, rfl, HA, HK2, HO_6, BK172, BK174, HB⟩ := hrel
     cases gk with
     | zero => exact absurd HA.out (by simp [clerestoryref1_marks.l1])
     | succ k2 =>
      have H := HA.out
      clear HA
      simp only [clerestoryref1_marks.l1] at H
      refine iL H ?p26 ?n26 <;> clear H
      case' p26 => intro c26b0 H; refine iE H ?p27 ?n27 <;> clear H
      case' p27 => intro c27b0 c27b1 H
      case' n27 => intro c27 c27b0 c27b1 H; refine iGp H ?_; clear H; intro c30 H
      case' n26 => intro c26b0 H
      case p27 =>
       obtain rfl := Option.some.inj H
       have hnb28 := NB174_172.out
       have hnc28 := NB172_174.out
       obtain ⟨hczL_0, hczL_1, hczL_2, hczL_3, hczL_4, hczL_5, hfzL_0, hfzL_1, hfzL_2, hfzL_3, hfzL_4, hfzL_5⟩ := bk6 BK174.out
       go_wp2
       go_ret
       exact ⟨_, by first | rfl | (simp [q05, q04] <;> rfl) | (simp [*, q05, q04] <;> rfl), by (with_reducible repeat (first | apply rA | apply rN | apply rD)); exact HO_6.out, by repeat (first | (with_reducible first | exact HB.out | apply bA | apply bN | apply bD | refine bS ?_ GE172.out | refine bS ?_ GE174.out) | exact HB.out)⟩
      case n27 =>
       have LMc30 := aS c30
       clear c30
       obtain ⟨y188, hy188⟩ : ∃ y_ : List (S50), y_ = (x6_2 ++ [(⟨a1, x8_2⟩ : S50)]) := ⟨_, rfl⟩
       replace H : (clerestoryref1_marks.l1 k2 a1 y188 (wrap64 (x8_2 + 1)) ((q00 l0_0 a1).f0) ((q00 l0_0 a1).f1) ((q00 l0_0 a1).f2) ((q00 l0_0 a1).f3) ((q00 l0_0 a1).f4) ((q00 l0_0 a1).f5)) = some r := by first | (rw [hy188]; with_reducible exact H) | (have H2_ := (Option.bind_some _ _).symm.trans H; rw [hy188]; with_reducible exact H2_) | (have H2_ := (Option.bind_some _ _).symm.trans H; with_reducible exact H2_) | with_reducible exact H | (rw [hy188]; exact H) | exact H
       have Ny188 := aS hy188
       clear hy188
       have H' := aS H
       clear H
       have hnb31 := NB174_172.out
       have hnc31 := NB172_174.out
       obtain ⟨hczL_0, hczL_1, hczL_2, hczL_3, hczL_4, hczL_5, hfzL_0, hfzL_1, hfzL_2, hfzL_3, hfzL_4, hfzL_5⟩ := bk6 BK174.out
       go_wp2_with (first | ((with_reducible refine q17 (b := .append) (xs := #[.tmp 52, .tmp 56]) rfl ?_); at_builtin; refine Kd.R_append k50 (w0 := w) w.heap.size rfl (.tmp 52) (.tmp 56) 134 50 (.agg #[(.int .i64 0), (.int .i64 0)]) 16 rfl Tryd.underlying134 info50 rfl (by decide) (by omega) u6 x6_2 (⟨a1, x8_2⟩ : S50) [.int .i64 a1, .int .i64 x8_2] (fun _ => True) (fun _ => False) rfl rfl ?aP (fun _ hk => hk.elim) ?aF ?aO ?aB ?aS ?aL ?_; (case aP => exact k50_mkM _ _ _ (⟨a1, x8_2⟩ : S50)); (case aB => exact (by repeat (first | (with_reducible first | exact HB.out | apply bA | apply bN | apply bD | refine bS ?_ GE172.out | refine bS ?_ GE174.out) | exact HB.out))); (case aF => exact (fun _ _ => trivial)); (case aO => exact (zf HO_6.out)); (case aS => exact (q06 (by repeat (first | (with_reducible first | exact HB.out | apply bA | apply bN | apply bD | refine bS ?_ GE172.out | refine bS ?_ GE174.out) | exact HB.out)))); (case aL => have := LMc30.out; omega); intro v189 w33 ho hb hg hat; rw [← Ny188.out] at ho; have n0_ := aS (q0q (g := gb172) (o := .cells #[.slice (some ad173) l0_0.length c0_0, .bool a0_1] 24 (0, 0)) (za BK172.out) hg (Kd.R_ne HO_6.out BK172.out (by decide))); have n1_ := aS (q0q (g := gb174) (o := .cells #[.int .i64 ((q00 l0_0 a1).f0), .string ((q00 l0_0 a1).f1), .slice A173_2 ((q00 l0_0 a1).f2).length c173_2, .string ((q00 l0_0 a1).f3), .int .i64 ((q00 l0_0 a1).f4), .slice A173_5 ((q00 l0_0 a1).f5).length c173_5] 43 (0, 0)) (za BK174.out) hg (Kd.R_ne HO_6.out BK174.out (by decide))); have n2_ := aS (hb); have n3_ := aS (ho); clear BK172; clear BK174; clear HB; clear HO_6; have BK172 := n0_; have BK174 := n1_; have HB := n2_; have HO190 := n3_; clear n0_ n1_ n2_ n3_; clear ho hb hg hat))
       go_roundg k2
       case measure => have := HK1.out; have := HK2.out; omega
       case rel => exact ⟨(y188), (wrap64 (x8_2 + 1)), zi, H', ⟨by have := HK1.out; have := HK2.out; omega⟩, ⟨by (with_reducible repeat (first | apply rA | apply rN | apply rD)); exact HO190.out⟩, ⟨by (with_reducible repeat (first | refine kN ?_ _ | refine kD ?_ | refine kA ?_ _)); exact BK172.out⟩, ⟨by (with_reducible repeat (first | refine kN ?_ _ | refine kD ?_ | refine kA ?_ _)); exact BK174.out⟩, ⟨by repeat (first | (with_reducible first | exact HB.out | apply bA | apply bN | apply bD | refine bS ?_ GE172.out | refine bS ?_ GE174.out) | exact HB.out)⟩⟩
      case n26 =>
       obtain rfl := Option.some.inj H
       have hnb34 := NB174_172.out
       have hnc34 := NB172_174.out
       obtain ⟨hczL_0, hczL_1, hczL_2, hczL_3, hczL_4, hczL_5, hfzL_0, hfzL_1, hfzL_2, hfzL_3, hfzL_4, hfzL_5⟩ := bk6 BK174.out
       go_wp2
       go_ret
       exact ⟨_, by first | rfl | (simp [q05, q04] <;> rfl) | (simp [*, q05, q04] <;> rfl), by (with_reducible repeat (first | apply rA | apply rN | apply rD)); exact HO_6.out, by repeat (first | (with_reducible first | exact HB.out | apply bA | apply bN | apply bD | refine bS ?_ GE172.out | refine bS ?_ GE174.out) | exact HB.out)⟩
def clerestoryref1_markOf.l0 : Nat → List (S50) → Int → Int → Int → Option (Int)
 | 0, _, _, _, _ => none
 | k + 1, x5, x6, x193000, x193001 => if x6 < (x5.length : Int) then (if 0 ≤ x6 then (if (((q11 x5 x6).f0) == x193000 && (((q11 x5 x6).f1) == x193001)) = true then (some x6) else (clerestoryref1_markOf.l0 k x5 (wrap64 (x6 + 1)) x193000 x193001)) else (none)) else (some (-1))
def clerestoryref1_markOf.f (k : Nat) (l0_0 : List (S43)) (a0_1 : Bool) (a1_0 : Int) (a1_1 : Int) : Option (Int) := (clerestoryref1_marks.f k l0_0 a0_1 0).bind fun t193 => (clerestoryref1_markOf.l0 k t193 0 a1_0 a1_1)
set_option maxHeartbeats 8000000 in
set_option maxRecDepth 100000 in
theorem clerestoryref1_markOf.calls (k : Nat) (A0_0 : Option Addr) (c0_0 : Nat) (l0_0 : List (S43)) (a0_1 : Bool) (a1_0 : Int) (a1_1 : Int) (r : Int) (w : World) (hr0_0 : Kd.C k43 w A0_0 l0_0.length l0_0) (hc0_0 : l0_0.length ≤ c0_0) (h : clerestoryref1_markOf.f k l0_0 a0_1 a1_0 a1_1 = some r) :
 Calls Tryd.prog 84 #[.agg #[.slice A0_0 l0_0.length c0_0, .bool a0_1], .agg #[.int .i64 a1_0, .int .i64 a1_1]] w fun e w' => e = .returned (.int .i64 r) ∧ Below w.heap.size w w' := by
 have hu24 := Tryd.underlying24
 have hu50 := Tryd.underlying50
 have HR0_0 := aS hr0_0
 have HC0_0 := aS hc0_0
 clear hr0_0 hc0_0
 have HB := aS (Below.refl w.heap.size w)
 have H := h; clear h; unfold clerestoryref1_markOf.f at H
 replace H := iB H
 obtain ⟨t193, A3, H⟩ := H
 have H' := aS H
 clear H
 go_enter Tryd.func84, Tryd.ntmps84
 go_wp2_with (first | ((with_reducible refine q07 (N := 2) rfl ?_); refine box0 rfl (N := 2) rfl (cs := #[.slice A0_0 l0_0.length c0_0, .bool a0_1]) (t := 24) zh (z7 HB.out) ?_; clear HB; intro gb191 w4 BK191 GW191 HB; have GE191 := GW191) | ((with_reducible refine q07 (N := 3) rfl ?_); refine q0j ?hg (N := 3) ?hd (cs := #[.int .i64 a1_0, .int .i64 a1_1]) (t := 50) ?hr ?_; (case hd => rfl); (case hg => rfl); (case hr => first | (go_simp; done) | (go_simp; rfl)); intro gb192 hg w5 hbox hb; have n0_ := aS (q01 (g := gb191) (o := .cells #[.slice A0_0 l0_0.length c0_0, .bool a0_1] 24 (0, 0)) (za BK191.out) hb); have n1_ := aS (q02 (z6 HB.out GE191.out) hb); have n2_ := aS (hbox); have n3_ := aS ((by rw [hg]; exact (q06 (z6 HB.out GE191.out)) : w.heap.size ≤ gb192)); have n4_ := aS ((by rw [hg]; exact (q06 (z6 HB.out GE191.out)) : w.heap.size ≤ gb192)); have n5_ := aS ((by rw [hg]; exact Nat.ne_of_lt (q0i (g := gb191) (o := .cells #[.slice A0_0 l0_0.length c0_0, .bool a0_1] 24 (0, 0)) (za BK191.out)) : gb191 ≠ gb192)); have n6_ := aS ((by rw [hg]; exact Nat.ne_of_gt (q0i (g := gb191) (o := .cells #[.slice A0_0 l0_0.length c0_0, .bool a0_1] 24 (0, 0)) (za BK191.out)) : gb192 ≠ gb191)); clear BK191; clear HB; have BK191 := n0_; have HB := n1_; have BK192 := n2_; have GW192 := n3_; have GE192 := n4_; have NB191_192 := n5_; have NB192_191 := n6_; clear n0_ n1_ n2_ n3_ n4_ n5_ n6_; clear hb hbox hg; have hnb6 := NB191_192.out; have hnc6 := NB192_191.out; obtain ⟨hcz7_0, hcz7_1, hfz7_0, hfz7_1⟩ := bk2 BK191.out) | (go_at_call 90; (with_reducible refine (clerestoryref1_marks.calls k _ _ l0_0 a0_1 0 t193 _ ?side1 ?side2 A3.out).mono ?_); (case side1 => repeat (first | exact (Kd.C_below HR0_0.out HB.out) | (with_reducible refine cA ?_ _) | (with_reducible refine cN ?_ _) | (with_reducible refine cD ?_))); (case side2 => exact HC0_0.out); rintro e w8 ⟨v194, rfl, ho0, hb⟩; have HO195 := aS (Kd.R_lower (Kd.R_newB ho0 (g := gb192) (o := .cells #[.int .i64 a1_0, .int .i64 a1_1] 50 (0, 0)) (za BK192.out)) (q06 (by repeat (first | (with_reducible first | exact HB.out | apply bA | apply bN | apply bD | refine bS ?_ GE191.out | refine bS ?_ GE192.out) | exact HB.out)))); replace BK191 := aS (q01 (g := gb191) (o := .cells #[.slice A0_0 l0_0.length c0_0, .bool a0_1] 24 (0, 0)) (za BK191.out) hb); replace BK192 := aS (q01 (g := gb192) (o := .cells #[.int .i64 a1_0, .int .i64 a1_1] 50 (0, 0)) (za BK192.out) hb); replace HB := aS (q02 (by repeat (first | (with_reducible first | exact HB.out | apply bA | apply bN | apply bD | refine bS ?_ GE191.out | refine bS ?_ GE192.out) | exact HB.out)) hb); (try clear hb); (try clear hb2); (try clear hk); (try clear hi); (try clear ho0)))
 repeat (go_quiet (first | ((with_reducible refine q07 (N := 2) rfl ?_); refine box0 rfl (N := 2) rfl (cs := #[.slice A0_0 l0_0.length c0_0, .bool a0_1]) (t := 24) zh (z7 HB.out) ?_; clear HB; intro gb191 w4 BK191 GW191 HB; have GE191 := GW191) | ((with_reducible refine q07 (N := 3) rfl ?_); refine q0j ?hg (N := 3) ?hd (cs := #[.int .i64 a1_0, .int .i64 a1_1]) (t := 50) ?hr ?_; (case hd => rfl); (case hg => rfl); (case hr => first | (go_simp; done) | (go_simp; rfl)); intro gb192 hg w5 hbox hb; have n0_ := aS (q01 (g := gb191) (o := .cells #[.slice A0_0 l0_0.length c0_0, .bool a0_1] 24 (0, 0)) (za BK191.out) hb); have n1_ := aS (q02 (z6 HB.out GE191.out) hb); have n2_ := aS (hbox); have n3_ := aS ((by rw [hg]; exact (q06 (z6 HB.out GE191.out)) : w.heap.size ≤ gb192)); have n4_ := aS ((by rw [hg]; exact (q06 (z6 HB.out GE191.out)) : w.heap.size ≤ gb192)); have n5_ := aS ((by rw [hg]; exact Nat.ne_of_lt (q0i (g := gb191) (o := .cells #[.slice A0_0 l0_0.length c0_0, .bool a0_1] 24 (0, 0)) (za BK191.out)) : gb191 ≠ gb192)); have n6_ := aS ((by rw [hg]; exact Nat.ne_of_gt (q0i (g := gb191) (o := .cells #[.slice A0_0 l0_0.length c0_0, .bool a0_1] 24 (0, 0)) (za BK191.out)) : gb192 ≠ gb191)); clear BK191; clear HB; have BK191 := n0_; have HB := n1_; have BK192 := n2_; have GW192 := n3_; have GE192 := n4_; have NB191_192 := n5_; have NB192_191 := n6_; clear n0_ n1_ n2_ n3_ n4_ n5_ n6_; clear hb hbox hg; have hnb6 := NB191_192.out; have hnc6 := NB192_191.out; obtain ⟨hcz7_0, hcz7_1, hfz7_0, hfz7_1⟩ := bk2 BK191.out) | (go_at_call 90; (with_reducible refine (clerestoryref1_marks.calls k _ _ l0_0 a0_1 0 t193 _ ?side1 ?side2 A3.out).mono ?_); (case side1 => repeat (first | exact (Kd.C_below HR0_0.out HB.out) | (with_reducible refine cA ?_ _) | (with_reducible refine cN ?_ _) | (with_reducible refine cD ?_))); (case side2 => exact HC0_0.out); rintro e w8 ⟨v194, rfl, ho0, hb⟩; have HO195 := aS (Kd.R_lower (Kd.R_newB ho0 (g := gb192) (o := .cells #[.int .i64 a1_0, .int .i64 a1_1] 50 (0, 0)) (za BK192.out)) (q06 (by repeat (first | (with_reducible first | exact HB.out | apply bA | apply bN | apply bD | refine bS ?_ GE191.out | refine bS ?_ GE192.out) | exact HB.out)))); replace BK191 := aS (q01 (g := gb191) (o := .cells #[.slice A0_0 l0_0.length c0_0, .bool a0_1] 24 (0, 0)) (za BK191.out) hb); replace BK192 := aS (q01 (g := gb192) (o := .cells #[.int .i64 a1_0, .int .i64 a1_1] 50 (0, 0)) (za BK192.out) hb); replace HB := aS (q02 (by repeat (first | (with_reducible first | exact HB.out | apply bA | apply bN | apply bD | refine bS ?_ GE191.out | refine bS ?_ GE192.out) | exact HB.out)) hb); (try clear hb); (try clear hb2); (try clear hk); (try clear hi); (try clear ho0))); try go_wp2_with (first | ((with_reducible refine q07 (N := 2) rfl ?_); refine box0 rfl (N := 2) rfl (cs := #[.slice A0_0 l0_0.length c0_0, .bool a0_1]) (t := 24) zh (z7 HB.out) ?_; clear HB; intro gb191 w4 BK191 GW191 HB; have GE191 := GW191) | ((with_reducible refine q07 (N := 3) rfl ?_); refine q0j ?hg (N := 3) ?hd (cs := #[.int .i64 a1_0, .int .i64 a1_1]) (t := 50) ?hr ?_; (case hd => rfl); (case hg => rfl); (case hr => first | (go_simp; done) | (go_simp; rfl)); intro gb192 hg w5 hbox hb; have n0_ := aS (q01 (g := gb191) (o := .cells #[.slice A0_0 l0_0.length c0_0, .bool a0_1] 24 (0, 0)) (za BK191.out) hb); have n1_ := aS (q02 (z6 HB.out GE191.out) hb); have n2_ := aS (hbox); have n3_ := aS ((by rw [hg]; exact (q06 (z6 HB.out GE191.out)) : w.heap.size ≤ gb192)); have n4_ := aS ((by rw [hg]; exact (q06 (z6 HB.out GE191.out)) : w.heap.size ≤ gb192)); have n5_ := aS ((by rw [hg]; exact Nat.ne_of_lt (q0i (g := gb191) (o := .cells #[.slice A0_0 l0_0.length c0_0, .bool a0_1] 24 (0, 0)) (za BK191.out)) : gb191 ≠ gb192)); have n6_ := aS ((by rw [hg]; exact Nat.ne_of_gt (q0i (g := gb191) (o := .cells #[.slice A0_0 l0_0.length c0_0, .bool a0_1] 24 (0, 0)) (za BK191.out)) : gb192 ≠ gb191)); clear BK191; clear HB; have BK191 := n0_; have HB := n1_; have BK192 := n2_; have GW192 := n3_; have GE192 := n4_; have NB191_192 := n5_; have NB192_191 := n6_; clear n0_ n1_ n2_ n3_ n4_ n5_ n6_; clear hb hbox hg; have hnb6 := NB191_192.out; have hnc6 := NB192_191.out; obtain ⟨hcz7_0, hcz7_1, hfz7_0, hfz7_1⟩ := bk2 BK191.out) | (go_at_call 90; (with_reducible refine (clerestoryref1_marks.calls k _ _ l0_0 a0_1 0 t193 _ ?side1 ?side2 A3.out).mono ?_); (case side1 => repeat (first | exact (Kd.C_below HR0_0.out HB.out) | (with_reducible refine cA ?_ _) | (with_reducible refine cN ?_ _) | (with_reducible refine cD ?_))); (case side2 => exact HC0_0.out); rintro e w8 ⟨v194, rfl, ho0, hb⟩; have HO195 := aS (Kd.R_lower (Kd.R_newB ho0 (g := gb192) (o := .cells #[.int .i64 a1_0, .int .i64 a1_1] 50 (0, 0)) (za BK192.out)) (q06 (by repeat (first | (with_reducible first | exact HB.out | apply bA | apply bN | apply bD | refine bS ?_ GE191.out | refine bS ?_ GE192.out) | exact HB.out)))); replace BK191 := aS (q01 (g := gb191) (o := .cells #[.slice A0_0 l0_0.length c0_0, .bool a0_1] 24 (0, 0)) (za BK191.out) hb); replace BK192 := aS (q01 (g := gb192) (o := .cells #[.int .i64 a1_0, .int .i64 a1_1] 50 (0, 0)) (za BK192.out) hb); replace HB := aS (q02 (by repeat (first | (with_reducible first | exact HB.out | apply bA | apply bN | apply bD | refine bS ?_ GE191.out | refine bS ?_ GE192.out) | exact HB.out)) hb); (try clear hb); (try clear hb2); (try clear hk); (try clear hi); (try clear ho0))))
 go_loopg [6] k (fun kq v6 w' => ∃ (x6_1 : Int), v6 = .int .i64 x6_1 ∧ Aside0 (clerestoryref1_markOf.l0 kq t193 x6_1 a1_0 a1_1 = some r) ∧ Aside0 (kq ≤ k) ∧ Aside0 (Kd.R k50 50 w' w.heap.size (fun k_ => k_ ≠ gb192) v194 t193) ∧ Aside0 (w'.heap[gb191]? = some (.cells #[(.slice A0_0 l0_0.length c0_0), .bool a0_1] 24 (0, 0))) ∧ Aside0 (w'.heap[gb192]? = some (.cells #[.int .i64 a1_0, .int .i64 a1_1] 50 (0, 0))) ∧ Aside0 (Below w.heap.size w w'))
 case atStart => exact ⟨(0), zi, H', ⟨Nat.le_refl _⟩, ⟨by (with_reducible repeat (first | apply rA | apply rN | apply rD)); exact Kd.R_mono HO195.out (fun _ hk => hk.2)⟩, ⟨by (with_reducible repeat (first | refine kN ?_ _ | refine kD ?_ | refine kA ?_ _)); exact BK191.out⟩, ⟨by (with_reducible repeat (first | refine kN ?_ _ | refine kD ?_ | refine kA ?_ _)); exact BK192.out⟩, ⟨by repeat (first | (with_reducible first | exact HB.out | apply bA | apply bN | apply bD | refine bS ?_ GE191.out | refine bS ?_ GE192.out) | exact HB.out)⟩⟩
 case round =>
  clear H'
  obtain ⟨x6_1, rfl, HA, HK1, HO_5, BK191, BK192, HB⟩ := hrel
  cases gk with
  | zero => exact absurd HA.out (by simp [clerestoryref1_markOf.l0])
  | succ k1 =>
   have H := HA.out
   clear HA
   simp only [clerestoryref1_markOf.l0] at H
   refine iT H ?p9 ?n9 <;> clear H
   case' p9 => intro c9b0 H; refine iLp H ?_; clear H; intro c10b0 H; refine iG H ?p11 ?n11 <;> clear H
   case' p11 => intro c11 H; have c11b0 : (((q11 t193 x6_1).f0) == a1_0 && (((q11 t193 x6_1).f1) == a1_1)) = true := c11
   case' n11 => intro c11 H; have c11b0 : (((q11 t193 x6_1).f0) == a1_0 && (((q11 t193 x6_1).f1) == a1_1)) = false := by simpa using c11
   case' n9 => intro c9b0 H
   case p11 =>
    (try (have c11b1 : decide (((q11 t193 x6_1).f0) = a1_0 && (((q11 t193 x6_1).f1) == a1_1)) = true := by simpa using c11))
    (try (have c11b2 : (((q11 t193 x6_1).f0) == a1_0 && (((q11 t193 x6_1).f1) == a1_1)) = true := by simpa using c11))
    clear c11
    obtain rfl := Option.some.inj H
    obtain ⟨Ao12, co12, eo12⟩ := Kd.R_slice HO_5.out
    subst eo12
    obtain ⟨ad196, e196, hx196_0, hx196_1, p196, q196⟩ := at_T50A (Kd.R_reads' HO_5.out).2.2 x6_1 zb zb
    cases e196
    have hnb13 := NB192_191.out
    have hnc13 := NB191_192.out
    obtain ⟨hczL_0, hczL_1, hfzL_0, hfzL_1⟩ := bk2 BK192.out
    go_wp2
    repeat (go_quiet (fail); try go_wp2)
    go_ret
    exact ⟨by first | rfl | (simp [q05, q04] <;> rfl) | (simp [*, q05, q04] <;> rfl), by repeat (first | (with_reducible first | exact HB.out | apply bA | apply bN | apply bD | refine bS ?_ GE191.out | refine bS ?_ GE192.out) | exact HB.out)⟩
   case n11 =>
    (try (have c11b1 : decide (((q11 t193 x6_1).f0) = a1_0 && (((q11 t193 x6_1).f1) == a1_1)) = false := by simpa using c11))
    (try (have c11b2 : (((q11 t193 x6_1).f0) == a1_0 && (((q11 t193 x6_1).f1) == a1_1)) = false := by simpa using c11))
    (try (have c11b3 : ¬ (((q11 t193 x6_1).f0) = a1_0 && (((q11 t193 x6_1).f1) == a1_1)) := by simpa using c11))
    clear c11
    have H' := aS H
    clear H
    obtain ⟨Ao15, co15, eo15⟩ := Kd.R_slice HO_5.out
    subst eo15
    obtain ⟨ad196, e196, hx196_0, hx196_1, p196, q196⟩ := at_T50A (Kd.R_reads' HO_5.out).2.2 x6_1 zb zb
    cases e196
    have hnb16 := NB192_191.out
    have hnc16 := NB191_192.out
    obtain ⟨hczL_0, hczL_1, hfzL_0, hfzL_1⟩ := bk2 BK192.out
    go_wp2
    repeat (go_quiet (fail); try go_wp2)
    go_roundg k1
    case measure => have := HK1.out; omega
    case rel => exact ⟨(wrap64 (x6_1 + 1)), zi, H', ⟨by have := HK1.out; omega⟩, ⟨by (with_reducible repeat (first | apply rA | apply rN | apply rD)); exact HO_5.out⟩, ⟨by (with_reducible repeat (first | refine kN ?_ _ | refine kD ?_ | refine kA ?_ _)); exact BK191.out⟩, ⟨by (with_reducible repeat (first | refine kN ?_ _ | refine kD ?_ | refine kA ?_ _)); exact BK192.out⟩, ⟨by repeat (first | (with_reducible first | exact HB.out | apply bA | apply bN | apply bD | refine bS ?_ GE191.out | refine bS ?_ GE192.out) | exact HB.out)⟩⟩
   case n9 =>
    obtain rfl := Option.some.inj H
    obtain ⟨Ao18, co18, eo18⟩ := Kd.R_slice HO_5.out
    subst eo18
    go_wp2
    repeat (go_quiet (fail); try go_wp2)
    go_ret
    exact ⟨by first | rfl | (simp [q05, q04] <;> rfl) | (simp [*, q05, q04] <;> rfl), by repeat (first | (with_reducible first | exact HB.out | apply bA | apply bN | apply bD | refine bS ?_ GE191.out | refine bS ?_ GE192.out) | exact HB.out)⟩
end Go.Proofs.YthjnallbbhnndaaDoor.XSp
namespace Go.Proofs.YthjnallbbhnndaaDoor.XSp
open Go.Proofs.YthjnallbbhnndaaDoor.Short Go.RowKit Go.Proofs.YthjnallbbhnndaaDoorW.PrintWords Go.Proofs.YthjnallbbhnndaaDoorW.PrintLast Go.Proofs.YthjnallbbhnndaaDoorW.PrintMore
attribute [local go_sem] max2_int min2_int max_two min_two q1n q1m max_four min_four   -- for this text's walks alone
set_option linter.unusedVariables false
set_option linter.unusedSimpArgs false
mutual
def clerestoryref1_SpanErr.j0 : Nat → Int → List (S43) → Bool → Int → Int → Int → Int → Option (Int)
 | 0, _, _, _, _, _, _, _ => none
 | k + 1, x5, x198000, x198001, x199000, x199001, x199002, x199003 => if x5 = 0 then ((clerestoryref1_PointErr.f k x198000 x198001 x199002 x199003).bind fun t201 => (clerestoryref1_SpanErr.j1 k t201 x198000 x198001 x199000 x199001 x199002 x199003)) else (clerestoryref1_SpanErr.j1 k x5 x198000 x198001 x199000 x199001 x199002 x199003)
def clerestoryref1_SpanErr.j1 : Nat → Int → List (S43) → Bool → Int → Int → Int → Int → Option (Int)
 | 0, _, _, _, _, _, _, _ => none
 | k + 1, x5, x198000, x198001, x199000, x199001, x199002, x199003 => if x5 = 0 then ((clerestoryref1_markOf.f k x198000 x198001 x199002 x199003).bind fun t202 => ((clerestoryref1_markOf.f k x198000 x198001 x199000 x199001).bind fun t203 => (if t202 < t203 then (some 9) else (some x5)))) else (some x5)
end
def clerestoryref1_SpanErr.f (k : Nat) (l0_0 : List (S43)) (a0_1 : Bool) (a1_0 : Int) (a1_1 : Int) (a1_2 : Int) (a1_3 : Int) : Option (Int) := (clerestoryref1_DocErr.f k l0_0 a0_1).bind fun t199 => (if t199 = 0 then ((clerestoryref1_PointErr.f k l0_0 a0_1 a1_0 a1_1).bind fun t200 => (clerestoryref1_SpanErr.j0 k t200 l0_0 a0_1 a1_0 a1_1 a1_2 a1_3)) else (clerestoryref1_SpanErr.j0 k t199 l0_0 a0_1 a1_0 a1_1 a1_2 a1_3))
def clerestoryref1_SpanErr.T6 : Bool × List (List Nat × List Nat) := (true, [([], []), ([0], [0]), ([1], [1]), ([2], [2]), ([2], [2]), ([4, 2], [2, 4]), ([3, 5, 2, 2], [2, 3, 5]), ([2], [2]), ([2], [2]), ([8, 2], [2, 8]), ([7, 9, 6, 2], [2, 7, 9]), ([6, 10, 2], [2, 6, 10]), ([2, 11], [2, 11])])
def clerestoryref1_SpanErr.B6 : List Nat := [0, 1, 3, 7, 7, 23, 63, 7, 7, 263, 1023, 2047, 4095]
theorem clerestoryref1_SpanErr.tab6 : rtab .any (opsOf Tryd.f33 6) = clerestoryref1_SpanErr.T6 := by kernel_rfl
theorem clerestoryref1_SpanErr.bits6 : waitsOk clerestoryref1_SpanErr.T6.2 clerestoryref1_SpanErr.B6 = true := by kernel_rfl
set_option maxHeartbeats 8000000 in
set_option maxRecDepth 100000 in
theorem clerestoryref1_SpanErr.calls (k : Nat) (A0_0 : Option Addr) (c0_0 : Nat) (l0_0 : List (S43)) (a0_1 : Bool) (a1_0 : Int) (a1_1 : Int) (a1_2 : Int) (a1_3 : Int) (r : Int) (w : World) (hr0_0 : Kd.C k43 w A0_0 l0_0.length l0_0) (hc0_0 : l0_0.length ≤ c0_0) (h : clerestoryref1_SpanErr.f k l0_0 a0_1 a1_0 a1_1 a1_2 a1_3 = some r) :
 Calls Tryd.prog 33 #[.agg #[.slice A0_0 l0_0.length c0_0, .bool a0_1], .agg #[.int .i64 a1_0, .int .i64 a1_1, .int .i64 a1_2, .int .i64 a1_3]] w fun e w' => e = .returned (.int .i64 r) ∧ Below w.heap.size w w' := by
 have hu24 := Tryd.underlying24
 have hu52 := Tryd.underlying52
 have hu50 := Tryd.underlying50
 have HR0_0 := aS hr0_0
 have HC0_0 := aS hc0_0
 clear hr0_0 hc0_0
 have HB := aS (Below.refl w.heap.size w)
 have H := h; clear h; unfold clerestoryref1_SpanErr.f at H
 replace H := iB H
 obtain ⟨t199, A3, H⟩ := H
 have HC4 := aS H
 clear H
 go_enter Tryd.func33, Tryd.ntmps33
 go_upto_if 9 with (first | ((with_reducible refine q07 (N := 2) rfl ?_); refine box0 rfl (N := 2) rfl (cs := #[.slice A0_0 l0_0.length c0_0, .bool a0_1]) (t := 24) zh (z7 HB.out) ?_; clear HB; intro gb197 w5 BK197 GW197 HB; have GE197 := GW197) | ((with_reducible refine q07 (N := 3) rfl ?_); refine q0j ?hg (N := 3) ?hd (cs := #[.int .i64 a1_0, .int .i64 a1_1, .int .i64 a1_2, .int .i64 a1_3]) (t := 52) ?hr ?_; (case hd => rfl); (case hg => rfl); (case hr => first | (go_simp; done) | (go_simp; rfl)); intro gb198 hg w6 hbox hb; have n0_ := aS (q01 (g := gb197) (o := .cells #[.slice A0_0 l0_0.length c0_0, .bool a0_1] 24 (0, 0)) (za BK197.out) hb); have n1_ := aS (q02 (z6 HB.out GE197.out) hb); have n2_ := aS (hbox); have n3_ := aS ((by rw [hg]; exact (q06 (z6 HB.out GE197.out)) : w.heap.size ≤ gb198)); have n4_ := aS ((by rw [hg]; exact (q06 (z6 HB.out GE197.out)) : w.heap.size ≤ gb198)); have n5_ := aS ((by rw [hg]; exact Nat.ne_of_lt (q0i (g := gb197) (o := .cells #[.slice A0_0 l0_0.length c0_0, .bool a0_1] 24 (0, 0)) (za BK197.out)) : gb197 ≠ gb198)); have n6_ := aS ((by rw [hg]; exact Nat.ne_of_gt (q0i (g := gb197) (o := .cells #[.slice A0_0 l0_0.length c0_0, .bool a0_1] 24 (0, 0)) (za BK197.out)) : gb198 ≠ gb197)); clear BK197; clear HB; have BK197 := n0_; have HB := n1_; have BK198 := n2_; have GW198 := n3_; have GE198 := n4_; have NB197_198 := n5_; have NB198_197 := n6_; clear n0_ n1_ n2_ n3_ n4_ n5_ n6_; clear hb hbox hg; have hnb7 := NB197_198.out; have hnc7 := NB198_197.out; obtain ⟨hcz8_0, hcz8_1, hfz8_0, hfz8_1⟩ := bk2 BK197.out) | ((with_reducible refine q08 (f := 17) rfl ?_); refine q0n (some 7) rfl rfl Tryd.func17 (by kernel_rfl) rfl #[.agg #[.slice A0_0 l0_0.length c0_0, .bool a0_1]] rfl zc ?_; (with_reducible refine (clerestoryref1_DocErr.calls k _ _ l0_0 a0_1 t199 _ ?side1 ?side2 A3.out).mono ?_); (case side1 => repeat (first | exact (Kd.C_below HR0_0.out HB.out) | (with_reducible refine cA ?_ _) | (with_reducible refine cN ?_ _) | (with_reducible refine cD ?_))); (case side2 => exact HC0_0.out); rintro e w9 ⟨rfl, hb⟩; refine ⟨_, rfl, ?_⟩; replace BK197 := aS (q01 (g := gb197) (o := .cells #[.slice A0_0 l0_0.length c0_0, .bool a0_1] 24 (0, 0)) (za BK197.out) hb); replace BK198 := aS (q01 (g := gb198) (o := .cells #[.int .i64 a1_0, .int .i64 a1_1, .int .i64 a1_2, .int .i64 a1_3] 52 (0, 0)) (za BK198.out) hb); replace HB := aS (q02 (by repeat (first | (with_reducible first | exact HB.out | apply bA | apply bN | apply bD | refine bS ?_ GE197.out | refine bS ?_ GE198.out) | exact HB.out)) hb); (try clear hb); (try clear hb2); (try clear hk); (try clear hi)))
 (try simp only [Act.put, s1, s2, s3])
 go_cut [5] (fun v5 wc => ∃ (kq : Nat) (x5_3 : Int), v5 = .int .i64 x5_3 ∧ Aside0 (clerestoryref1_SpanErr.j0 kq x5_3 l0_0 a0_1 a1_0 a1_1 a1_2 a1_3 = some r) ∧ Aside0 (kq ≤ k) ∧ Aside0 (wc.heap[gb197]? = some (.cells #[(.slice A0_0 l0_0.length c0_0), .bool a0_1] 24 (0, 0))) ∧ Aside0 (wc.heap[gb198]? = some (.cells #[.int .i64 a1_0, .int .i64 a1_1, .int .i64 a1_2, .int .i64 a1_3] 52 (0, 0))) ∧ Aside0 (Below w.heap.size w wc))
 case first =>
  have H := HC4.out
  clear HC4
  refine iE H ?p10 ?n10 <;> clear H
  case' p10 => intro c10b0 c10b1 H
  case' n10 => intro c10 c10b0 c10b1 H
  case p10 =>
   (first | rw [c10b0] | (simp only [q09, q0a]; rw [c10b0]) | skip)
   replace H := iB H
   obtain ⟨t200, A11, H⟩ := H
   have H' := aS H
   clear H
   have hnb12 := NB197_198.out
   have hnc12 := NB198_197.out
   obtain ⟨hczL_0, hczL_1, hfzL_0, hfzL_1⟩ := bk2 BK197.out
   obtain ⟨hczL_0, hczL_1, hczL_2, hczL_3, hfzL_0, hfzL_1, hfzL_2, hfzL_3⟩ := bk4 BK198.out
   go_wp2_with (first | ((with_reducible refine q08 (f := 39) rfl ?_); refine q0n (some 13) rfl rfl Tryd.func39 (by kernel_rfl) rfl #[.agg #[.slice A0_0 l0_0.length c0_0, .bool a0_1], .agg #[.int .i64 a1_0, .int .i64 a1_1]] rfl zc ?_; (with_reducible refine (clerestoryref1_PointErr.calls k _ _ l0_0 a0_1 a1_0 a1_1 t200 _ ?side1 ?side2 A11.out).mono ?_); (case side1 => repeat (first | exact (Kd.C_below HR0_0.out HB.out) | (with_reducible refine cA ?_ _) | (with_reducible refine cN ?_ _) | (with_reducible refine cD ?_))); (case side2 => exact HC0_0.out); rintro e w15 ⟨rfl, hb⟩; refine ⟨_, rfl, ?_⟩; replace BK197 := aS (q01 (g := gb197) (o := .cells #[.slice A0_0 l0_0.length c0_0, .bool a0_1] 24 (0, 0)) (za BK197.out) hb); replace BK198 := aS (q01 (g := gb198) (o := .cells #[.int .i64 a1_0, .int .i64 a1_1, .int .i64 a1_2, .int .i64 a1_3] 52 (0, 0)) (za BK198.out) hb); replace HB := aS (q02 (by repeat (first | (with_reducible first | exact HB.out | apply bA | apply bN | apply bD | refine bS ?_ GE197.out | refine bS ?_ GE198.out) | exact HB.out)) hb); (try clear hb); (try clear hb2); (try clear hk); (try clear hi)))
   go_meet
   case rel => exact ⟨_, (t200), zi, H', ⟨by first | omega | exact Nat.le_refl _⟩, ⟨by (with_reducible repeat (first | refine kN ?_ _ | refine kD ?_ | refine kA ?_ _)); exact BK197.out⟩, ⟨by (with_reducible repeat (first | refine kN ?_ _ | refine kD ?_ | refine kA ?_ _)); exact BK198.out⟩, ⟨by repeat (first | (with_reducible first | exact HB.out | apply bA | apply bN | apply bD | refine bS ?_ GE197.out | refine bS ?_ GE198.out) | exact HB.out)⟩⟩
  case n10 =>
   (first | rw [c10b0] | (simp only [q09, q0a]; rw [c10b0]) | skip)
   have H' := aS H
   clear H
   go_wp2
   go_meet
   case rel => exact ⟨_, (t199), zi, H', ⟨by first | omega | exact Nat.le_refl _⟩, ⟨by (with_reducible repeat (first | refine kN ?_ _ | refine kD ?_ | refine kA ?_ _)); exact BK197.out⟩, ⟨by (with_reducible repeat (first | refine kN ?_ _ | refine kD ?_ | refine kA ?_ _)); exact BK198.out⟩, ⟨by repeat (first | (with_reducible first | exact HB.out | apply bA | apply bN | apply bD | refine bS ?_ GE197.out | refine bS ?_ GE198.out) | exact HB.out)⟩⟩
 case rest =>
  clear HC4
  obtain ⟨kq, x5_3, rfl, HA, HJ3, BK197, BK198, HB⟩ := hcut
  cases kq with
  | zero => exact absurd HA.out (by simp [clerestoryref1_SpanErr.j0])
  | succ kj3 =>
   have H := HA.out
   clear HA
   simp only [clerestoryref1_SpanErr.j0] at H
   have HC16 := aS H
   clear H
   go_upto_if 15 with (fail)
   go_cut [5] (fun v5 wc => ∃ (kq : Nat) (x5_15 : Int), v5 = .int .i64 x5_15 ∧ Aside0 (clerestoryref1_SpanErr.j1 kq x5_15 l0_0 a0_1 a1_0 a1_1 a1_2 a1_3 = some r) ∧ Aside0 (kq ≤ kj3) ∧ Aside0 (wc.heap[gb197]? = some (.cells #[(.slice A0_0 l0_0.length c0_0), .bool a0_1] 24 (0, 0))) ∧ Aside0 (wc.heap[gb198]? = some (.cells #[.int .i64 a1_0, .int .i64 a1_1, .int .i64 a1_2, .int .i64 a1_3] 52 (0, 0))) ∧ Aside0 (Below w.heap.size w wc))
   case first =>
    have H := HC16.out
    clear HC16
    refine iE H ?p17 ?n17 <;> clear H
    case' p17 => intro c17b0 c17b1 H
    case' n17 => intro c17 c17b0 c17b1 H
    case p17 =>
     (first | rw [c17b0] | (simp only [q09, q0a]; rw [c17b0]) | skip)
     replace H := iB H
     obtain ⟨t201, A18, H⟩ := H
     have H' := aS H
     clear H
     have hnb19 := NB197_198.out
     have hnc19 := NB198_197.out
     obtain ⟨hczL_0, hczL_1, hfzL_0, hfzL_1⟩ := bk2 BK197.out
     obtain ⟨hczL_0, hczL_1, hczL_2, hczL_3, hfzL_0, hfzL_1, hfzL_2, hfzL_3⟩ := bk4 BK198.out
     go_wp2_with (first | ((with_reducible refine q08 (f := 39) rfl ?_); refine q0n (some 19) rfl rfl Tryd.func39 (by kernel_rfl) rfl #[.agg #[.slice A0_0 l0_0.length c0_0, .bool a0_1], .agg #[.int .i64 a1_2, .int .i64 a1_3]] rfl zc ?_; (with_reducible refine (clerestoryref1_PointErr.calls kj3 _ _ l0_0 a0_1 a1_2 a1_3 t201 _ ?side1 ?side2 A18.out).mono ?_); (case side1 => repeat (first | exact (Kd.C_below HR0_0.out HB.out) | (with_reducible refine cA ?_ _) | (with_reducible refine cN ?_ _) | (with_reducible refine cD ?_))); (case side2 => exact HC0_0.out); rintro e w22 ⟨rfl, hb⟩; refine ⟨_, rfl, ?_⟩; replace BK197 := aS (q01 (g := gb197) (o := .cells #[.slice A0_0 l0_0.length c0_0, .bool a0_1] 24 (0, 0)) (za BK197.out) hb); replace BK198 := aS (q01 (g := gb198) (o := .cells #[.int .i64 a1_0, .int .i64 a1_1, .int .i64 a1_2, .int .i64 a1_3] 52 (0, 0)) (za BK198.out) hb); replace HB := aS (q02 (by repeat (first | (with_reducible first | exact HB.out | apply bA | apply bN | apply bD | refine bS ?_ GE197.out | refine bS ?_ GE198.out) | exact HB.out)) hb); (try clear hb); (try clear hb2); (try clear hk); (try clear hi)))
     go_meet
     case rel => exact ⟨_, (t201), zi, H', ⟨by have := HJ3.out; first | omega | exact Nat.le_refl _⟩, ⟨by (with_reducible repeat (first | refine kN ?_ _ | refine kD ?_ | refine kA ?_ _)); exact BK197.out⟩, ⟨by (with_reducible repeat (first | refine kN ?_ _ | refine kD ?_ | refine kA ?_ _)); exact BK198.out⟩, ⟨by repeat (first | (with_reducible first | exact HB.out | apply bA | apply bN | apply bD | refine bS ?_ GE197.out | refine bS ?_ GE198.out) | exact HB.out)⟩⟩
    case n17 =>
     (first | rw [c17b0] | (simp only [q09, q0a]; rw [c17b0]) | skip)
     have H' := aS H
     clear H
     go_wp2
     go_meet
     case rel => exact ⟨_, (x5_3), zi, H', ⟨by have := HJ3.out; first | omega | exact Nat.le_refl _⟩, ⟨by (with_reducible repeat (first | refine kN ?_ _ | refine kD ?_ | refine kA ?_ _)); exact BK197.out⟩, ⟨by (with_reducible repeat (first | refine kN ?_ _ | refine kD ?_ | refine kA ?_ _)); exact BK198.out⟩, ⟨by repeat (first | (with_reducible first | exact HB.out | apply bA | apply bN | apply bD | refine bS ?_ GE197.out | refine bS ?_ GE198.out) | exact HB.out)⟩⟩
   case rest =>
    clear HC16
    obtain ⟨kq, x5_15, rfl, HA, HJ15, BK197, BK198, HB⟩ := hcut
    cases kq with
    | zero => exact absurd HA.out (by simp [clerestoryref1_SpanErr.j1])
    | succ kj15 =>
     have H := HA.out
     clear HA
     simp only [clerestoryref1_SpanErr.j1] at H
     refine iE H ?p23 ?n23 <;> clear H
     case' p23 => intro c23b0 c23b1 H; replace H := iB H; obtain ⟨t202, A24, H⟩ := H; replace H := iB H; obtain ⟨t203, A25, H⟩ := H; refine iT H ?p26 ?n26 <;> clear H
     case' p26 => intro c26b0 H
     case' n26 => intro c26b0 H
     case' n23 => intro c23 c23b0 c23b1 H
     case p26 =>
      obtain rfl := Option.some.inj H
      try go_wp2
      have n0_ := aS (q0v BK197.out)
      have n1_ := aS (q0v BK198.out)
      have n2_ := aS (q0t HB.out)
      clear BK197
      clear BK198
      clear HB
      have BK197 := n0_
      have BK198 := n1_
      have HB := n2_
      clear n0_ n1_ n2_
      refine start_ (n := 13) (S := fun w' => w'.cell? ⟨gb197, 0, none⟩ = some (.slice A0_0 l0_0.length c0_0) ∧ w'.cell? ⟨gb197, 1, none⟩ = some (.bool a0_1) ∧ w'.cell? ⟨gb198, 0, none⟩ = some (.int .i64 a1_0) ∧ w'.cell? ⟨gb198, 1, none⟩ = some (.int .i64 a1_1) ∧ w'.cell? ⟨gb198, 2, none⟩ = some (.int .i64 a1_2) ∧ w'.cell? ⟨gb198, 3, none⟩ = some (.int .i64 a1_3)) (ds := []) #[false, false, false, false, false, false, false, false, false, false, false, false, false] (by kernel_rfl) rfl rfl ⟨(q03 BK197.out 0).trans rfl, (q03 BK197.out 1).trans rfl, (q03 BK198.out 0).trans rfl, (q03 BK198.out 1).trans rfl, (q03 BK198.out 2).trans rfl, (q03 BK198.out 3).trans rfl⟩ (fun hHeld => ?_); refine q14 clerestoryref1_SpanErr.tab6 clerestoryref1_SpanErr.bits6 (fun HT_ HW_ => ?_)
      generalize wc.drew = w27 at BK197 BK198 HB hHeld ⊢
      refine q0e (i := 0) (N := some 20) (v := ?_) (a' := ?_) #[true, false, false, false, false, false, false, false, false, false, false, false, false] rfl rfl (q0b HT_.out (by kernel_rfl)) (fun _ _ _ h => h) (Or.inl ⟨by rfl, ?_⟩) ?_ ?_
      rotate_left
      ·intro w'
       go_simp
       with_reducible rfl
      rotate_left
      ·simp only [Act.put, s1, s2, s3, q09, q0a]
       rfl
      refine q0e (i := 1) (N := some 21) (v := ?_) (a' := ?_) #[true, true, false, false, false, false, false, false, false, false, false, false, false] rfl rfl (q0b HT_.out (by kernel_rfl)) (fun _ _ _ h => h) (Or.inl ⟨by rfl, ?_⟩) ?_ ?_
      rotate_left
      ·intro w'
       go_simp
       with_reducible rfl
      rotate_left
      ·simp only [Act.put, s1, s2, s3, q09, q0a]
       rfl
      refine q0e (i := 2) (N := some 22) (v := ?_) (a' := ?_) #[true, true, true, false, false, false, false, false, false, false, false, false, false] rfl rfl (q0b HT_.out (by kernel_rfl)) (fun _ _ _ h => h) (Or.inl ⟨by rfl, ?_⟩) ?_ ?_
      rotate_left
      ·intro w'
       go_simp
       with_reducible rfl
      rotate_left
      ·simp only [Act.put, s1, s2, s3, q09, q0a]
       rfl
      refine q0e (i := 4) (N := some 24) (v := ?_) (a' := ?_) #[true, true, true, false, true, false, false, false, false, false, false, false, false] rfl rfl (q0b HT_.out (by kernel_rfl)) (fun _ _ _ h => h) (Or.inl ⟨by rfl, ?_⟩) ?_ ?_
      rotate_left
      ·intro w'
       go_simp
       with_reducible rfl
      rotate_left
      ·simp only [Act.put, s1, s2, s3, q09, q0a]
       rfl
      refine q0e (i := 8) (N := some 28) (v := ?_) (a' := ?_) #[true, true, true, false, true, false, false, false, true, false, false, false, false] rfl rfl (q0b HT_.out (by kernel_rfl)) (fun _ _ _ h => h) (Or.inl ⟨by rfl, ?_⟩) ?_ ?_
      rotate_left
      ·intro w'
       go_simp
       with_reducible rfl
      rotate_left
      ·simp only [Act.put, s1, s2, s3, q09, q0a]
       rfl
      refine take_ (i := 3) (N := some 23) (v := ?_) (a' := ?_) #[true, true, true, true, true, false, false, false, true, false, false, false, false] rfl rfl (q0m HT_.out HW_.out (by kernel_rfl)) (fun _ _ _ h => h) (Or.inl ⟨by rfl, ?_⟩) hHeld ?_ ?_
      rotate_left
      ·rintro w' ⟨s0, s1, s2, s3, s4, s5⟩
       go_simp
       with_reducible rfl
      rotate_left
      ·simp only [Act.put, s1, s2, s3, q09, q0a]
       rfl
      refine take_ (i := 5) (N := some 25) (v := ?_) (a' := ?_) #[true, true, true, true, true, true, false, false, true, false, false, false, false] rfl rfl (q0m HT_.out HW_.out (by kernel_rfl)) (fun _ _ _ h => h) (Or.inl ⟨by rfl, ?_⟩) hHeld ?_ ?_
      rotate_left
      ·rintro w' ⟨s0, s1, s2, s3, s4, s5⟩
       go_simp
       with_reducible rfl
      rotate_left
      ·simp only [Act.put, s1, s2, s3, q09, q0a]
       rfl
      refine take_ (i := 7) (N := some 27) (v := ?_) (a' := ?_) #[true, true, true, true, true, true, false, true, true, false, false, false, false] rfl rfl (q0m HT_.out HW_.out (by kernel_rfl)) (fun _ _ _ h => h) (Or.inl ⟨by rfl, ?_⟩) hHeld ?_ ?_
      rotate_left
      ·rintro w' ⟨s0, s1, s2, s3, s4, s5⟩
       go_simp
       with_reducible rfl
      rotate_left
      ·simp only [Act.put, s1, s2, s3, q09, q0a]
       rfl
      refine take_ (i := 9) (N := some 29) (v := ?_) (a' := ?_) #[true, true, true, true, true, true, false, true, true, true, false, false, false] rfl rfl (q0m HT_.out HW_.out (by kernel_rfl)) (fun _ _ _ h => h) (Or.inl ⟨by rfl, ?_⟩) hHeld ?_ ?_
      rotate_left
      ·rintro w' ⟨s0, s1, s2, s3, s4, s5⟩
       go_simp
       with_reducible rfl
      rotate_left
      ·simp only [Act.put, s1, s2, s3, q09, q0a]
       rfl
      refine one_ (i := 6) (N := some 26) #[true, true, true, true, true, true, true, true, true, true, false, false, false] rfl rfl (q1j HT_.out (by kernel_rfl)) (by decide) (fun K hK => ?_)
      refine goes_ Tryd.func84 (by kernel_rfl) rfl #[.agg #[.slice A0_0 l0_0.length c0_0, .bool a0_1], .agg #[.int .i64 a1_2, .int .i64 a1_3]] (by rfl) rfl rfl zc ?_
      with_reducible refine (clerestoryref1_markOf.calls kj15 _ _ l0_0 a0_1 a1_2 a1_3 t202 _ ?side1 ?side2 A24.out).mono ?_
      (case side1 => repeat (first | exact (Kd.C_below HR0_0.out HB.out) | (with_reducible refine cA ?_ _) | (with_reducible refine cN ?_ _) | (with_reducible refine cD ?_)))
      (case side2 => exact HC0_0.out)
      rintro e w28 ⟨rfl, hb⟩
      refine ⟨_, rfl, ?_⟩
      have n0_ := aS (q01 (g := gb197) (o := .cells #[.slice A0_0 l0_0.length c0_0, .bool a0_1] 24 (0, 0)) (za BK197.out) hb)
      have n1_ := aS (q01 (g := gb198) (o := .cells #[.int .i64 a1_0, .int .i64 a1_1, .int .i64 a1_2, .int .i64 a1_3] 52 (0, 0)) (za BK198.out) hb)
      have n2_ := aS (q02 (by repeat (first | (with_reducible first | exact HB.out | apply bA | apply bN | apply bD | refine bS ?_ GE197.out | refine bS ?_ GE198.out) | exact HB.out)) hb)
      clear BK197
      clear BK198
      clear HB
      have BK197 := n0_
      have BK198 := n1_
      have HB := n2_
      clear n0_ n1_ n2_
      (try clear hb)
      (try clear hb2)
      (try clear hk)
      (try clear hi)
      refine hK.out _ _ ⟨(q03 BK197.out 0).trans rfl, (q03 BK197.out 1).trans rfl, (q03 BK198.out 0).trans rfl, (q03 BK198.out 1).trans rfl, (q03 BK198.out 2).trans rfl, (q03 BK198.out 3).trans rfl⟩ (fun hHeld => ?_)
      clear hK K
      refine norm_ (a' := ?_) ?_ ?_
      rotate_left
      ·show Act.put _ (some 26) _ = _
       simp only [Act.put, s1, s2, s3, q09, q0a]
       rfl
      refine one_ (i := 10) (N := some 30) #[true, true, true, true, true, true, true, true, true, true, true, false, false] rfl rfl (q1j HT_.out (by kernel_rfl)) (by decide) (fun K hK => ?_)
      refine goes_ Tryd.func84 (by kernel_rfl) rfl #[.agg #[.slice A0_0 l0_0.length c0_0, .bool a0_1], .agg #[.int .i64 a1_0, .int .i64 a1_1]] (by rfl) rfl rfl zc ?_
      with_reducible refine (clerestoryref1_markOf.calls kj15 _ _ l0_0 a0_1 a1_0 a1_1 t203 _ ?side1 ?side2 A25.out).mono ?_
      (case side1 => repeat (first | exact (Kd.C_below HR0_0.out HB.out) | (with_reducible refine cA ?_ _) | (with_reducible refine cN ?_ _) | (with_reducible refine cD ?_)))
      (case side2 => exact HC0_0.out)
      rintro e w29 ⟨rfl, hb⟩
      refine ⟨_, rfl, ?_⟩
      have n0_ := aS (q01 (g := gb197) (o := .cells #[.slice A0_0 l0_0.length c0_0, .bool a0_1] 24 (0, 0)) (za BK197.out) hb)
      have n1_ := aS (q01 (g := gb198) (o := .cells #[.int .i64 a1_0, .int .i64 a1_1, .int .i64 a1_2, .int .i64 a1_3] 52 (0, 0)) (za BK198.out) hb)
      have n2_ := aS (q02 (by repeat (first | (with_reducible first | exact HB.out | apply bA | apply bN | apply bD | refine bS ?_ GE197.out | refine bS ?_ GE198.out) | exact HB.out)) hb)
      clear BK197
      clear BK198
      clear HB
      have BK197 := n0_
      have BK198 := n1_
      have HB := n2_
      clear n0_ n1_ n2_
      (try clear hb)
      (try clear hb2)
      (try clear hk)
      (try clear hi)
      refine hK.out _ _ ⟨(q03 BK197.out 0).trans rfl, (q03 BK197.out 1).trans rfl, (q03 BK198.out 0).trans rfl, (q03 BK198.out 1).trans rfl, (q03 BK198.out 2).trans rfl, (q03 BK198.out 3).trans rfl⟩ (fun hHeld => ?_)
      clear hK K
      refine norm_ (a' := ?_) ?_ ?_
      rotate_left
      ·show Act.put _ (some 30) _ = _
       simp only [Act.put, s1, s2, s3, q09, q0a]
       rfl
      refine q0e (i := 11) (N := some 31) (v := ?_) (a' := ?_) #[true, true, true, true, true, true, true, true, true, true, true, true, false] rfl rfl (q0b HT_.out (by kernel_rfl)) (fun _ _ _ h => h) (Or.inl ⟨by rfl, ?_⟩) ?_ ?_
      rotate_left
      ·intro w'
       go_simp
       with_reducible rfl
      rotate_left
      ·simp only [Act.put, s1, s2, s3, q09, q0a]
       rfl
      refine q0e (i := 12) (N := some 32) (v := ?_) (a' := ?_) #[true, true, true, true, true, true, true, true, true, true, true, true, true] rfl rfl (q0b HT_.out (by kernel_rfl)) (fun _ _ _ h => h) (Or.inl ⟨by rfl, ?_⟩) ?_ ?_
      rotate_left
      ·intro w'
       go_simp
       with_reducible rfl
      rotate_left
      ·simp only [Act.put, s1, s2, s3, q09, q0a]
       rfl
      refine done_ (q1l HT_.out (by kernel_rfl)) ?_
      try go_wp2
      go_ret
      exact ⟨by first | rfl | (simp [q05, q04] <;> rfl) | (simp [*, q05, q04] <;> rfl), by repeat (first | (with_reducible first | exact HB.out | apply bA | apply bN | apply bD | refine bS ?_ GE197.out | refine bS ?_ GE198.out) | exact HB.out)⟩
     case n26 =>
      obtain rfl := Option.some.inj H
      try go_wp2
      have n0_ := aS (q0v BK197.out)
      have n1_ := aS (q0v BK198.out)
      have n2_ := aS (q0t HB.out)
      clear BK197
      clear BK198
      clear HB
      have BK197 := n0_
      have BK198 := n1_
      have HB := n2_
      clear n0_ n1_ n2_
      refine start_ (n := 13) (S := fun w' => w'.cell? ⟨gb197, 0, none⟩ = some (.slice A0_0 l0_0.length c0_0) ∧ w'.cell? ⟨gb197, 1, none⟩ = some (.bool a0_1) ∧ w'.cell? ⟨gb198, 0, none⟩ = some (.int .i64 a1_0) ∧ w'.cell? ⟨gb198, 1, none⟩ = some (.int .i64 a1_1) ∧ w'.cell? ⟨gb198, 2, none⟩ = some (.int .i64 a1_2) ∧ w'.cell? ⟨gb198, 3, none⟩ = some (.int .i64 a1_3)) (ds := []) #[false, false, false, false, false, false, false, false, false, false, false, false, false] (by kernel_rfl) rfl rfl ⟨(q03 BK197.out 0).trans rfl, (q03 BK197.out 1).trans rfl, (q03 BK198.out 0).trans rfl, (q03 BK198.out 1).trans rfl, (q03 BK198.out 2).trans rfl, (q03 BK198.out 3).trans rfl⟩ (fun hHeld => ?_); refine q14 clerestoryref1_SpanErr.tab6 clerestoryref1_SpanErr.bits6 (fun HT_ HW_ => ?_)
      generalize wc.drew = w30 at BK197 BK198 HB hHeld ⊢
      refine q0e (i := 0) (N := some 20) (v := ?_) (a' := ?_) #[true, false, false, false, false, false, false, false, false, false, false, false, false] rfl rfl (q0b HT_.out (by kernel_rfl)) (fun _ _ _ h => h) (Or.inl ⟨by rfl, ?_⟩) ?_ ?_
      rotate_left
      ·intro w'
       go_simp
       with_reducible rfl
      rotate_left
      ·simp only [Act.put, s1, s2, s3, q09, q0a]
       rfl
      refine q0e (i := 1) (N := some 21) (v := ?_) (a' := ?_) #[true, true, false, false, false, false, false, false, false, false, false, false, false] rfl rfl (q0b HT_.out (by kernel_rfl)) (fun _ _ _ h => h) (Or.inl ⟨by rfl, ?_⟩) ?_ ?_
      rotate_left
      ·intro w'
       go_simp
       with_reducible rfl
      rotate_left
      ·simp only [Act.put, s1, s2, s3, q09, q0a]
       rfl
      refine q0e (i := 2) (N := some 22) (v := ?_) (a' := ?_) #[true, true, true, false, false, false, false, false, false, false, false, false, false] rfl rfl (q0b HT_.out (by kernel_rfl)) (fun _ _ _ h => h) (Or.inl ⟨by rfl, ?_⟩) ?_ ?_
      rotate_left
      ·intro w'
       go_simp
       with_reducible rfl
      rotate_left
      ·simp only [Act.put, s1, s2, s3, q09, q0a]
       rfl
      refine q0e (i := 4) (N := some 24) (v := ?_) (a' := ?_) #[true, true, true, false, true, false, false, false, false, false, false, false, false] rfl rfl (q0b HT_.out (by kernel_rfl)) (fun _ _ _ h => h) (Or.inl ⟨by rfl, ?_⟩) ?_ ?_
      rotate_left
      ·intro w'
       go_simp
       with_reducible rfl
      rotate_left
      ·simp only [Act.put, s1, s2, s3, q09, q0a]
       rfl
      refine q0e (i := 8) (N := some 28) (v := ?_) (a' := ?_) #[true, true, true, false, true, false, false, false, true, false, false, false, false] rfl rfl (q0b HT_.out (by kernel_rfl)) (fun _ _ _ h => h) (Or.inl ⟨by rfl, ?_⟩) ?_ ?_
      rotate_left
      ·intro w'
       go_simp
       with_reducible rfl
      rotate_left
      ·simp only [Act.put, s1, s2, s3, q09, q0a]
       rfl
      refine take_ (i := 3) (N := some 23) (v := ?_) (a' := ?_) #[true, true, true, true, true, false, false, false, true, false, false, false, false] rfl rfl (q0m HT_.out HW_.out (by kernel_rfl)) (fun _ _ _ h => h) (Or.inl ⟨by rfl, ?_⟩) hHeld ?_ ?_
      rotate_left
      ·rintro w' ⟨s0, s1, s2, s3, s4, s5⟩
       go_simp
       with_reducible rfl
      rotate_left
      ·simp only [Act.put, s1, s2, s3, q09, q0a]
       rfl
      refine take_ (i := 5) (N := some 25) (v := ?_) (a' := ?_) #[true, true, true, true, true, true, false, false, true, false, false, false, false] rfl rfl (q0m HT_.out HW_.out (by kernel_rfl)) (fun _ _ _ h => h) (Or.inl ⟨by rfl, ?_⟩) hHeld ?_ ?_
      rotate_left
      ·rintro w' ⟨s0, s1, s2, s3, s4, s5⟩
       go_simp
       with_reducible rfl
      rotate_left
      ·simp only [Act.put, s1, s2, s3, q09, q0a]
       rfl
      refine take_ (i := 7) (N := some 27) (v := ?_) (a' := ?_) #[true, true, true, true, true, true, false, true, true, false, false, false, false] rfl rfl (q0m HT_.out HW_.out (by kernel_rfl)) (fun _ _ _ h => h) (Or.inl ⟨by rfl, ?_⟩) hHeld ?_ ?_
      rotate_left
      ·rintro w' ⟨s0, s1, s2, s3, s4, s5⟩
       go_simp
       with_reducible rfl
      rotate_left
      ·simp only [Act.put, s1, s2, s3, q09, q0a]
       rfl
      refine take_ (i := 9) (N := some 29) (v := ?_) (a' := ?_) #[true, true, true, true, true, true, false, true, true, true, false, false, false] rfl rfl (q0m HT_.out HW_.out (by kernel_rfl)) (fun _ _ _ h => h) (Or.inl ⟨by rfl, ?_⟩) hHeld ?_ ?_
      rotate_left
      ·rintro w' ⟨s0, s1, s2, s3, s4, s5⟩
       go_simp
       with_reducible rfl
      rotate_left
      ·simp only [Act.put, s1, s2, s3, q09, q0a]
       rfl
      refine one_ (i := 6) (N := some 26) #[true, true, true, true, true, true, true, true, true, true, false, false, false] rfl rfl (q1j HT_.out (by kernel_rfl)) (by decide) (fun K hK => ?_)
      refine goes_ Tryd.func84 (by kernel_rfl) rfl #[.agg #[.slice A0_0 l0_0.length c0_0, .bool a0_1], .agg #[.int .i64 a1_2, .int .i64 a1_3]] (by rfl) rfl rfl zc ?_
      with_reducible refine (clerestoryref1_markOf.calls kj15 _ _ l0_0 a0_1 a1_2 a1_3 t202 _ ?side1 ?side2 A24.out).mono ?_
      (case side1 => repeat (first | exact (Kd.C_below HR0_0.out HB.out) | (with_reducible refine cA ?_ _) | (with_reducible refine cN ?_ _) | (with_reducible refine cD ?_)))
      (case side2 => exact HC0_0.out)
      rintro e w31 ⟨rfl, hb⟩
      refine ⟨_, rfl, ?_⟩
      have n0_ := aS (q01 (g := gb197) (o := .cells #[.slice A0_0 l0_0.length c0_0, .bool a0_1] 24 (0, 0)) (za BK197.out) hb)
      have n1_ := aS (q01 (g := gb198) (o := .cells #[.int .i64 a1_0, .int .i64 a1_1, .int .i64 a1_2, .int .i64 a1_3] 52 (0, 0)) (za BK198.out) hb)
      have n2_ := aS (q02 (by repeat (first | (with_reducible first | exact HB.out | apply bA | apply bN | apply bD | refine bS ?_ GE197.out | refine bS ?_ GE198.out) | exact HB.out)) hb)
      clear BK197
      clear BK198
      clear HB
      have BK197 := n0_
      have BK198 := n1_
      have HB := n2_
      clear n0_ n1_ n2_
      (try clear hb)
      (try clear hb2)
      (try clear hk)
      (try clear hi)
      refine hK.out _ _ ⟨(q03 BK197.out 0).trans rfl, (q03 BK197.out 1).trans rfl, (q03 BK198.out 0).trans rfl, (q03 BK198.out 1).trans rfl, (q03 BK198.out 2).trans rfl, (q03 BK198.out 3).trans rfl⟩ (fun hHeld => ?_)
      clear hK K
      refine norm_ (a' := ?_) ?_ ?_
      rotate_left
      ·show Act.put _ (some 26) _ = _
       simp only [Act.put, s1, s2, s3, q09, q0a]
       rfl
      refine one_ (i := 10) (N := some 30) #[true, true, true, true, true, true, true, true, true, true, true, false, false] rfl rfl (q1j HT_.out (by kernel_rfl)) (by decide) (fun K hK => ?_)
      refine goes_ Tryd.func84 (by kernel_rfl) rfl #[.agg #[.slice A0_0 l0_0.length c0_0, .bool a0_1], .agg #[.int .i64 a1_0, .int .i64 a1_1]] (by rfl) rfl rfl zc ?_
      with_reducible refine (clerestoryref1_markOf.calls kj15 _ _ l0_0 a0_1 a1_0 a1_1 t203 _ ?side1 ?side2 A25.out).mono ?_
      (case side1 => repeat (first | exact (Kd.C_below HR0_0.out HB.out) | (with_reducible refine cA ?_ _) | (with_reducible refine cN ?_ _) | (with_reducible refine cD ?_)))
      (case side2 => exact HC0_0.out)
      rintro e w32 ⟨rfl, hb⟩
      refine ⟨_, rfl, ?_⟩
      have n0_ := aS (q01 (g := gb197) (o := .cells #[.slice A0_0 l0_0.length c0_0, .bool a0_1] 24 (0, 0)) (za BK197.out) hb)
      have n1_ := aS (q01 (g := gb198) (o := .cells #[.int .i64 a1_0, .int .i64 a1_1, .int .i64 a1_2, .int .i64 a1_3] 52 (0, 0)) (za BK198.out) hb)
      have n2_ := aS (q02 (by repeat (first | (with_reducible first | exact HB.out | apply bA | apply bN | apply bD | refine bS ?_ GE197.out | refine bS ?_ GE198.out) | exact HB.out)) hb)
      clear BK197
      clear BK198
      clear HB
      have BK197 := n0_
      have BK198 := n1_
      have HB := n2_
      clear n0_ n1_ n2_
      (try clear hb)
      (try clear hb2)
      (try clear hk)
      (try clear hi)
      refine hK.out _ _ ⟨(q03 BK197.out 0).trans rfl, (q03 BK197.out 1).trans rfl, (q03 BK198.out 0).trans rfl, (q03 BK198.out 1).trans rfl, (q03 BK198.out 2).trans rfl, (q03 BK198.out 3).trans rfl⟩ (fun hHeld => ?_)
      clear hK K
      refine norm_ (a' := ?_) ?_ ?_
      rotate_left
      ·show Act.put _ (some 30) _ = _
       simp only [Act.put, s1, s2, s3, q09, q0a]
       rfl
      refine q0e (i := 11) (N := some 31) (v := ?_) (a' := ?_) #[true, true, true, true, true, true, true, true, true, true, true, true, false] rfl rfl (q0b HT_.out (by kernel_rfl)) (fun _ _ _ h => h) (Or.inl ⟨by rfl, ?_⟩) ?_ ?_
      rotate_left
      ·intro w'
       go_simp
       with_reducible rfl
      rotate_left
      ·simp only [Act.put, s1, s2, s3, q09, q0a]
       rfl
      refine q0e (i := 12) (N := some 32) (v := ?_) (a' := ?_) #[true, true, true, true, true, true, true, true, true, true, true, true, true] rfl rfl (q0b HT_.out (by kernel_rfl)) (fun _ _ _ h => h) (Or.inl ⟨by rfl, ?_⟩) ?_ ?_
      rotate_left
      ·intro w'
       go_simp
       with_reducible rfl
      rotate_left
      ·simp only [Act.put, s1, s2, s3, q09, q0a]
       rfl
      refine done_ (q1l HT_.out (by kernel_rfl)) ?_
      try go_wp2
      go_ret
      exact ⟨by first | rfl | (simp [q05, q04] <;> rfl) | (simp [*, q05, q04] <;> rfl), by repeat (first | (with_reducible first | exact HB.out | apply bA | apply bN | apply bD | refine bS ?_ GE197.out | refine bS ?_ GE198.out) | exact HB.out)⟩
     case n23 =>
      obtain rfl := Option.some.inj H
      try go_wp2
      have n0_ := aS (q0v BK197.out)
      have n1_ := aS (q0v BK198.out)
      have n2_ := aS (q0t HB.out)
      clear BK197
      clear BK198
      clear HB
      have BK197 := n0_
      have BK198 := n1_
      have HB := n2_
      clear n0_ n1_ n2_
      refine start_ (n := 13) (S := fun w' => True) (ds := []) #[false, false, false, false, false, false, false, false, false, false, false, false, false] (by kernel_rfl) rfl rfl trivial (fun hHeld => ?_); refine q14 clerestoryref1_SpanErr.tab6 clerestoryref1_SpanErr.bits6 (fun HT_ HW_ => ?_)
      generalize wc.drew = w33 at BK197 BK198 HB hHeld ⊢
      refine q0e (i := 0) (N := some 20) (v := ?_) (a' := ?_) #[true, false, false, false, false, false, false, false, false, false, false, false, false] rfl rfl (q0b HT_.out (by kernel_rfl)) (fun _ _ _ h => h) (Or.inl ⟨by rfl, ?_⟩) ?_ ?_
      rotate_left
      ·intro w'
       go_simp
       with_reducible rfl
      rotate_left
      ·simp only [Act.put, s1, s2, s3, q09, q0a]
       rfl
      refine q0e (i := 1) (N := some 21) (v := ?_) (a' := ?_) #[true, true, false, false, false, false, false, false, false, false, false, false, false] rfl rfl (q0b HT_.out (by kernel_rfl)) (fun _ _ _ h => h) (Or.inl ⟨by rfl, ?_⟩) ?_ ?_
      rotate_left
      ·intro w'
       go_simp
       with_reducible rfl
      rotate_left
      ·simp only [Act.put, s1, s2, s3, q09, q0a]
       rfl
      refine q0e (i := 2) (N := some 22) (v := ?_) (a' := ?_) #[true, true, true, false, false, false, false, false, false, false, false, false, false] rfl rfl (q0b HT_.out (by kernel_rfl)) (fun _ _ _ h => h) (Or.inl ⟨by rfl, ?_⟩) ?_ ?_
      rotate_left
      ·intro w'
       go_simp
       with_reducible rfl
      rotate_left
      ·simp only [Act.put, s1, s2, s3, q09, q0a]
       rfl
      refine q0e (i := 3) (N := some 23) (v := undef) (a' := ?_) #[true, true, true, true, false, false, false, false, false, false, false, false, false] rfl rfl (q0b HT_.out (by kernel_rfl)) (fun _ _ _ h => h) (Or.inr ⟨by rfl, rfl⟩) ?_ ?_
      rotate_left
      ·simp only [Act.put, s1, s2, s3, q09, q0a]
       rfl
      refine q0e (i := 4) (N := some 24) (v := undef) (a' := ?_) #[true, true, true, true, true, false, false, false, false, false, false, false, false] rfl rfl (q0b HT_.out (by kernel_rfl)) (fun _ _ _ h => h) (Or.inr ⟨by rfl, rfl⟩) ?_ ?_
      rotate_left
      ·simp only [Act.put, s1, s2, s3, q09, q0a]
       rfl
      refine q0e (i := 5) (N := some 25) (v := undef) (a' := ?_) #[true, true, true, true, true, true, false, false, false, false, false, false, false] rfl rfl (q0b HT_.out (by kernel_rfl)) (fun _ _ _ h => h) (Or.inr ⟨by rfl, rfl⟩) ?_ ?_
      rotate_left
      ·simp only [Act.put, s1, s2, s3, q09, q0a]
       rfl
      refine q0e (i := 6) (N := some 26) (v := undef) (a' := ?_) #[true, true, true, true, true, true, true, false, false, false, false, false, false] rfl rfl (q0b HT_.out (by kernel_rfl)) (fun _ _ _ h => h) (Or.inr ⟨by rfl, rfl⟩) ?_ ?_
      rotate_left
      ·simp only [Act.put, s1, s2, s3, q09, q0a]
       rfl
      refine q0e (i := 7) (N := some 27) (v := undef) (a' := ?_) #[true, true, true, true, true, true, true, true, false, false, false, false, false] rfl rfl (q0b HT_.out (by kernel_rfl)) (fun _ _ _ h => h) (Or.inr ⟨by rfl, rfl⟩) ?_ ?_
      rotate_left
      ·simp only [Act.put, s1, s2, s3, q09, q0a]
       rfl
      refine q0e (i := 8) (N := some 28) (v := undef) (a' := ?_) #[true, true, true, true, true, true, true, true, true, false, false, false, false] rfl rfl (q0b HT_.out (by kernel_rfl)) (fun _ _ _ h => h) (Or.inr ⟨by rfl, rfl⟩) ?_ ?_
      rotate_left
      ·simp only [Act.put, s1, s2, s3, q09, q0a]
       rfl
      refine q0e (i := 9) (N := some 29) (v := undef) (a' := ?_) #[true, true, true, true, true, true, true, true, true, true, false, false, false] rfl rfl (q0b HT_.out (by kernel_rfl)) (fun _ _ _ h => h) (Or.inr ⟨by rfl, rfl⟩) ?_ ?_
      rotate_left
      ·simp only [Act.put, s1, s2, s3, q09, q0a]
       rfl
      refine q0e (i := 10) (N := some 30) (v := undef) (a' := ?_) #[true, true, true, true, true, true, true, true, true, true, true, false, false] rfl rfl (q0b HT_.out (by kernel_rfl)) (fun _ _ _ h => h) (Or.inr ⟨by rfl, rfl⟩) ?_ ?_
      rotate_left
      ·simp only [Act.put, s1, s2, s3, q09, q0a]
       rfl
      refine q0e (i := 11) (N := some 31) (v := undef) (a' := ?_) #[true, true, true, true, true, true, true, true, true, true, true, true, false] rfl rfl (q0b HT_.out (by kernel_rfl)) (fun _ _ _ h => h) (Or.inr ⟨by rfl, rfl⟩) ?_ ?_
      rotate_left
      ·simp only [Act.put, s1, s2, s3, q09, q0a]
       rfl
      refine q0e (i := 12) (N := some 32) (v := ?_) (a' := ?_) #[true, true, true, true, true, true, true, true, true, true, true, true, true] rfl rfl (q0b HT_.out (by kernel_rfl)) (fun _ _ _ h => h) (Or.inl ⟨by rfl, ?_⟩) ?_ ?_
      rotate_left
      ·intro w'
       go_simp
       with_reducible rfl
      rotate_left
      ·simp only [Act.put, s1, s2, s3, q09, q0a]
       rfl
      refine done_ (q1l HT_.out (by kernel_rfl)) ?_
      try go_wp2
      go_ret
      exact ⟨by first | rfl | (simp [q05, q04] <;> rfl) | (simp [*, q05, q04] <;> rfl), by repeat (first | (with_reducible first | exact HB.out | apply bA | apply bN | apply bD | refine bS ?_ GE197.out | refine bS ?_ GE198.out) | exact HB.out)⟩
def dom_parent.f (a0 : Int) : Option (Bool) := if a0 = 1 then (some true) else (some (a0 == 2))
set_option maxHeartbeats 8000000 in
set_option maxRecDepth 100000 in
theorem dom_parent.calls (a0 : Int) (r : Bool) (w : World) (h : dom_parent.f a0 = some r) :
 Calls Tryd.prog 158 #[.int .i64 a0] w fun e w' => e = .returned (.bool r) ∧ Drawn0 w w' := by
 have H := h; clear h; unfold dom_parent.f at H
 refine iE H ?p2 ?n2 <;> clear H
 case' p2 => intro c2b0 c2b1 H
 case' n2 => intro c2 c2b0 c2b1 H
 case p2|n2 =>
  obtain rfl := Option.some.inj H
  go_enter Tryd.func158, Tryd.ntmps158
  go_wp2
  go_ret
  exact ⟨by first | rfl | (simp; done) | (simp [*]; done), by repeat (first | exact Drawn0.refl _ | apply Drawn0.step)⟩
def dom_bare.f (a0_0 : Int) (a0_1 : ByteArray) (l0_2 : List (S122)) (a0_3 : ByteArray) (a0_4 : Int) (l0_5 : List Int) : Option (Bool) := if a0_0 = 3 then (if a0_0 = 2 then ((dom_parent.f a0_0).bind fun t109 => (if t109 = true then (some true) else (some ((l0_5.length : Int) == 0)))) else (if a0_0 = 5 then (if (l0_2.length : Int) = 0 then ((dom_parent.f a0_0).bind fun t110 => (if t110 = true then (some true) else (some ((l0_5.length : Int) == 0)))) else (some false)) else (if a0_1.toList = ([] : List UInt8) then (if (l0_2.length : Int) = 0 then ((dom_parent.f a0_0).bind fun t111 => (if t111 = true then (some true) else (some ((l0_5.length : Int) == 0)))) else (some false)) else (some false)))) else (if a0_0 = 2 then (if a0_0 = 4 then ((dom_parent.f a0_0).bind fun t112 => (if t112 = true then (some true) else (some ((l0_5.length : Int) == 0)))) else (if a0_3.toList = ([] : List UInt8) then ((dom_parent.f a0_0).bind fun t113 => (if t113 = true then (some true) else (some ((l0_5.length : Int) == 0)))) else (some false))) else (if a0_0 = 5 then (if (l0_2.length : Int) = 0 then (if a0_0 = 4 then ((dom_parent.f a0_0).bind fun t114 => (if t114 = true then (some true) else (some ((l0_5.length : Int) == 0)))) else (if a0_3.toList = ([] : List UInt8) then ((dom_parent.f a0_0).bind fun t115 => (if t115 = true then (some true) else (some ((l0_5.length : Int) == 0)))) else (some false))) else (some false)) else (if a0_1.toList = ([] : List UInt8) then (if (l0_2.length : Int) = 0 then (if a0_0 = 4 then ((dom_parent.f a0_0).bind fun t116 => (if t116 = true then (some true) else (some ((l0_5.length : Int) == 0)))) else (if a0_3.toList = ([] : List UInt8) then ((dom_parent.f a0_0).bind fun t117 => (if t117 = true then (some true) else (some ((l0_5.length : Int) == 0)))) else (some false))) else (some false)) else (some false))))
set_option maxHeartbeats 64000000 in
set_option maxRecDepth 100000 in
theorem dom_bare.core (a0_0 : Int) (a0_1 : ByteArray) (A0_2 : Option Addr) (c0_2 : Nat) (l0_2 : List (S122)) (a0_3 : ByteArray) (a0_4 : Int) (A0_5 : Option Addr) (c0_5 : Nat) (l0_5 : List Int) (b2 b3 b4 b5 bn ba bt bc pv : Bool) (w : World)
 (h2 : (a0_0 == 2) = b2) (h3 : (a0_0 == 3) = b3) (h4 : (a0_0 == 4) = b4) (h5 : (a0_0 == 5) = b5) (hn : (a0_1.toList == ([] : List UInt8)) = bn) (ha : ((l0_2.length : Int) == 0) = ba) (ht : (a0_3.toList == ([] : List UInt8)) = bt) (hc : ((l0_5.length : Int) == 0) = bc) (hp : dom_parent.f a0_0 = some pv)
 (hk : (b2 = true ∧ b3 = false ∧ b4 = false ∧ b5 = false) ∨ (b2 = false ∧ b3 = true ∧ b4 = false ∧ b5 = false) ∨ (b2 = false ∧ b3 = false ∧ b4 = true ∧ b5 = false) ∨ (b2 = false ∧ b3 = false ∧ b4 = false ∧ b5 = true) ∨ (b2 = false ∧ b3 = false ∧ b4 = false ∧ b5 = false)) :
 Calls Tryd.prog 135 #[.agg #[.int .i64 a0_0, .string a0_1, .slice A0_2 l0_2.length c0_2, .string a0_3, .int .i64 a0_4, .slice A0_5 l0_5.length c0_5]] w fun e w' => e = .returned (.bool ((b2 || b5 || bn) && (b2 || ba) && (b3 || b4 || bt) && (pv || bc))) ∧ Below w.heap.size w w' := by
 have hu43 := Tryd.underlying43
 have HB := aS (Below.refl w.heap.size w)
 rcases hk with ⟨rfl, rfl, rfl, rfl⟩ | ⟨rfl, rfl, rfl, rfl⟩ | ⟨rfl, rfl, rfl, rfl⟩ | ⟨rfl, rfl, rfl, rfl⟩ | ⟨rfl, rfl, rfl, rfl⟩
 ·cases bt
  case' true => (cases pv; case' false => cases bc)
  all_goals (go_enter Tryd.func135, Tryd.ntmps135; go_wp2_with (first | ((with_reducible refine q07 (N := 1) rfl ?_); refine q0j ?hg (N := 1) ?hd (cs := #[.int .i64 a0_0, .string a0_1, .slice A0_2 l0_2.length c0_2, .string a0_3, .int .i64 a0_4, .slice A0_5 l0_5.length c0_5]) (t := 43) ?hr ?_; (case hd => rfl); (case hg => rfl); (case hr => first | (go_simp; done) | (go_simp; rfl)); intro gb hg wb hbox hb; have n0_ := aS (q02 (z8 HB.out) hb); have BK := aS hbox; have hz0 : wb.cell? ⟨gb, 0, none⟩ = some (.int .i64 a0_0) := (q03 BK.out 0).trans rfl; have hz1 : wb.cell? ⟨gb, 1, none⟩ = some (.string a0_1) := (q03 BK.out 1).trans rfl; have hz2 : wb.cell? ⟨gb, 2, none⟩ = some (.slice A0_2 l0_2.length c0_2) := (q03 BK.out 2).trans rfl; have hz3 : wb.cell? ⟨gb, 3, none⟩ = some (.string a0_3) := (q03 BK.out 3).trans rfl; have hz4 : wb.cell? ⟨gb, 4, none⟩ = some (.int .i64 a0_4) := (q03 BK.out 4).trans rfl; have hz5 : wb.cell? ⟨gb, 5, none⟩ = some (.slice A0_5 l0_5.length c0_5) := (q03 BK.out 5).trans rfl; clear HB; have HB := n0_; clear n0_ hg hbox hb) | (go_at_call 158; (with_reducible refine (dom_parent.calls a0_0 _ _ hp).mono ?_); rintro e w' ⟨rfl, ⟨nd, rfl⟩⟩)); repeat (go_quiet ((go_at_call 158; (with_reducible refine (dom_parent.calls a0_0 _ _ hp).mono ?_); rintro e w' ⟨rfl, ⟨nd, rfl⟩⟩; (try first | exact ⟨rfl, _, World.drewN_drewN _ _ _⟩ | exact ⟨rfl, _, Eq.trans (World.drewN_drewN _ _ _) (congrArg (World.drewN _) (Nat.add_assoc _ _ _))⟩))); try go_wp2_with (first | (go_at_call 158; (with_reducible refine (dom_parent.calls a0_0 _ _ hp).mono ?_); rintro e w' ⟨rfl, ⟨nd, rfl⟩⟩))); go_ret; exact ⟨rfl, (z8 HB.out)⟩)
 ·cases bn
  case' true => (cases ba; case' true => (cases pv; case' false => cases bc))
  all_goals (go_enter Tryd.func135, Tryd.ntmps135; go_wp2_with (first | ((with_reducible refine q07 (N := 1) rfl ?_); refine q0j ?hg (N := 1) ?hd (cs := #[.int .i64 a0_0, .string a0_1, .slice A0_2 l0_2.length c0_2, .string a0_3, .int .i64 a0_4, .slice A0_5 l0_5.length c0_5]) (t := 43) ?hr ?_; (case hd => rfl); (case hg => rfl); (case hr => first | (go_simp; done) | (go_simp; rfl)); intro gb hg wb hbox hb; have n0_ := aS (q02 (z8 HB.out) hb); have BK := aS hbox; have hz0 : wb.cell? ⟨gb, 0, none⟩ = some (.int .i64 a0_0) := (q03 BK.out 0).trans rfl; have hz1 : wb.cell? ⟨gb, 1, none⟩ = some (.string a0_1) := (q03 BK.out 1).trans rfl; have hz2 : wb.cell? ⟨gb, 2, none⟩ = some (.slice A0_2 l0_2.length c0_2) := (q03 BK.out 2).trans rfl; have hz3 : wb.cell? ⟨gb, 3, none⟩ = some (.string a0_3) := (q03 BK.out 3).trans rfl; have hz4 : wb.cell? ⟨gb, 4, none⟩ = some (.int .i64 a0_4) := (q03 BK.out 4).trans rfl; have hz5 : wb.cell? ⟨gb, 5, none⟩ = some (.slice A0_5 l0_5.length c0_5) := (q03 BK.out 5).trans rfl; clear HB; have HB := n0_; clear n0_ hg hbox hb) | (go_at_call 158; (with_reducible refine (dom_parent.calls a0_0 _ _ hp).mono ?_); rintro e w' ⟨rfl, ⟨nd, rfl⟩⟩)); repeat (go_quiet ((go_at_call 158; (with_reducible refine (dom_parent.calls a0_0 _ _ hp).mono ?_); rintro e w' ⟨rfl, ⟨nd, rfl⟩⟩; (try first | exact ⟨rfl, _, World.drewN_drewN _ _ _⟩ | exact ⟨rfl, _, Eq.trans (World.drewN_drewN _ _ _) (congrArg (World.drewN _) (Nat.add_assoc _ _ _))⟩))); try go_wp2_with (first | (go_at_call 158; (with_reducible refine (dom_parent.calls a0_0 _ _ hp).mono ?_); rintro e w' ⟨rfl, ⟨nd, rfl⟩⟩))); go_ret; exact ⟨rfl, (z8 HB.out)⟩)
 ·cases bn
  case' true => (cases ba; case' true => (cases pv; case' false => cases bc))
  all_goals (go_enter Tryd.func135, Tryd.ntmps135; go_wp2_with (first | ((with_reducible refine q07 (N := 1) rfl ?_); refine q0j ?hg (N := 1) ?hd (cs := #[.int .i64 a0_0, .string a0_1, .slice A0_2 l0_2.length c0_2, .string a0_3, .int .i64 a0_4, .slice A0_5 l0_5.length c0_5]) (t := 43) ?hr ?_; (case hd => rfl); (case hg => rfl); (case hr => first | (go_simp; done) | (go_simp; rfl)); intro gb hg wb hbox hb; have n0_ := aS (q02 (z8 HB.out) hb); have BK := aS hbox; have hz0 : wb.cell? ⟨gb, 0, none⟩ = some (.int .i64 a0_0) := (q03 BK.out 0).trans rfl; have hz1 : wb.cell? ⟨gb, 1, none⟩ = some (.string a0_1) := (q03 BK.out 1).trans rfl; have hz2 : wb.cell? ⟨gb, 2, none⟩ = some (.slice A0_2 l0_2.length c0_2) := (q03 BK.out 2).trans rfl; have hz3 : wb.cell? ⟨gb, 3, none⟩ = some (.string a0_3) := (q03 BK.out 3).trans rfl; have hz4 : wb.cell? ⟨gb, 4, none⟩ = some (.int .i64 a0_4) := (q03 BK.out 4).trans rfl; have hz5 : wb.cell? ⟨gb, 5, none⟩ = some (.slice A0_5 l0_5.length c0_5) := (q03 BK.out 5).trans rfl; clear HB; have HB := n0_; clear n0_ hg hbox hb) | (go_at_call 158; (with_reducible refine (dom_parent.calls a0_0 _ _ hp).mono ?_); rintro e w' ⟨rfl, ⟨nd, rfl⟩⟩)); repeat (go_quiet ((go_at_call 158; (with_reducible refine (dom_parent.calls a0_0 _ _ hp).mono ?_); rintro e w' ⟨rfl, ⟨nd, rfl⟩⟩; (try first | exact ⟨rfl, _, World.drewN_drewN _ _ _⟩ | exact ⟨rfl, _, Eq.trans (World.drewN_drewN _ _ _) (congrArg (World.drewN _) (Nat.add_assoc _ _ _))⟩))); try go_wp2_with (first | (go_at_call 158; (with_reducible refine (dom_parent.calls a0_0 _ _ hp).mono ?_); rintro e w' ⟨rfl, ⟨nd, rfl⟩⟩))); go_ret; exact ⟨rfl, (z8 HB.out)⟩)
 ·cases ba
  case' true => (cases bt; case' true => (cases pv; case' false => cases bc))
  all_goals (go_enter Tryd.func135, Tryd.ntmps135; go_wp2_with (first | ((with_reducible refine q07 (N := 1) rfl ?_); refine q0j ?hg (N := 1) ?hd (cs := #[.int .i64 a0_0, .string a0_1, .slice A0_2 l0_2.length c0_2, .string a0_3, .int .i64 a0_4, .slice A0_5 l0_5.length c0_5]) (t := 43) ?hr ?_; (case hd => rfl); (case hg => rfl); (case hr => first | (go_simp; done) | (go_simp; rfl)); intro gb hg wb hbox hb; have n0_ := aS (q02 (z8 HB.out) hb); have BK := aS hbox; have hz0 : wb.cell? ⟨gb, 0, none⟩ = some (.int .i64 a0_0) := (q03 BK.out 0).trans rfl; have hz1 : wb.cell? ⟨gb, 1, none⟩ = some (.string a0_1) := (q03 BK.out 1).trans rfl; have hz2 : wb.cell? ⟨gb, 2, none⟩ = some (.slice A0_2 l0_2.length c0_2) := (q03 BK.out 2).trans rfl; have hz3 : wb.cell? ⟨gb, 3, none⟩ = some (.string a0_3) := (q03 BK.out 3).trans rfl; have hz4 : wb.cell? ⟨gb, 4, none⟩ = some (.int .i64 a0_4) := (q03 BK.out 4).trans rfl; have hz5 : wb.cell? ⟨gb, 5, none⟩ = some (.slice A0_5 l0_5.length c0_5) := (q03 BK.out 5).trans rfl; clear HB; have HB := n0_; clear n0_ hg hbox hb) | (go_at_call 158; (with_reducible refine (dom_parent.calls a0_0 _ _ hp).mono ?_); rintro e w' ⟨rfl, ⟨nd, rfl⟩⟩)); repeat (go_quiet ((go_at_call 158; (with_reducible refine (dom_parent.calls a0_0 _ _ hp).mono ?_); rintro e w' ⟨rfl, ⟨nd, rfl⟩⟩; (try first | exact ⟨rfl, _, World.drewN_drewN _ _ _⟩ | exact ⟨rfl, _, Eq.trans (World.drewN_drewN _ _ _) (congrArg (World.drewN _) (Nat.add_assoc _ _ _))⟩))); try go_wp2_with (first | (go_at_call 158; (with_reducible refine (dom_parent.calls a0_0 _ _ hp).mono ?_); rintro e w' ⟨rfl, ⟨nd, rfl⟩⟩))); go_ret; exact ⟨rfl, (z8 HB.out)⟩)
 ·cases bn
  case' true => (cases ba; case' true => (cases bt; case' true => (cases pv; case' false => cases bc)))
  all_goals (go_enter Tryd.func135, Tryd.ntmps135; go_wp2_with (first | ((with_reducible refine q07 (N := 1) rfl ?_); refine q0j ?hg (N := 1) ?hd (cs := #[.int .i64 a0_0, .string a0_1, .slice A0_2 l0_2.length c0_2, .string a0_3, .int .i64 a0_4, .slice A0_5 l0_5.length c0_5]) (t := 43) ?hr ?_; (case hd => rfl); (case hg => rfl); (case hr => first | (go_simp; done) | (go_simp; rfl)); intro gb hg wb hbox hb; have n0_ := aS (q02 (z8 HB.out) hb); have BK := aS hbox; have hz0 : wb.cell? ⟨gb, 0, none⟩ = some (.int .i64 a0_0) := (q03 BK.out 0).trans rfl; have hz1 : wb.cell? ⟨gb, 1, none⟩ = some (.string a0_1) := (q03 BK.out 1).trans rfl; have hz2 : wb.cell? ⟨gb, 2, none⟩ = some (.slice A0_2 l0_2.length c0_2) := (q03 BK.out 2).trans rfl; have hz3 : wb.cell? ⟨gb, 3, none⟩ = some (.string a0_3) := (q03 BK.out 3).trans rfl; have hz4 : wb.cell? ⟨gb, 4, none⟩ = some (.int .i64 a0_4) := (q03 BK.out 4).trans rfl; have hz5 : wb.cell? ⟨gb, 5, none⟩ = some (.slice A0_5 l0_5.length c0_5) := (q03 BK.out 5).trans rfl; clear HB; have HB := n0_; clear n0_ hg hbox hb) | (go_at_call 158; (with_reducible refine (dom_parent.calls a0_0 _ _ hp).mono ?_); rintro e w' ⟨rfl, ⟨nd, rfl⟩⟩)); repeat (go_quiet ((go_at_call 158; (with_reducible refine (dom_parent.calls a0_0 _ _ hp).mono ?_); rintro e w' ⟨rfl, ⟨nd, rfl⟩⟩; (try first | exact ⟨rfl, _, World.drewN_drewN _ _ _⟩ | exact ⟨rfl, _, Eq.trans (World.drewN_drewN _ _ _) (congrArg (World.drewN _) (Nat.add_assoc _ _ _))⟩))); try go_wp2_with (first | (go_at_call 158; (with_reducible refine (dom_parent.calls a0_0 _ _ hp).mono ?_); rintro e w' ⟨rfl, ⟨nd, rfl⟩⟩))); go_ret; exact ⟨rfl, (z8 HB.out)⟩)
set_option maxHeartbeats 8000000 in
theorem dom_bare.calls (a0_0 : Int) (a0_1 : ByteArray) (A0_2 : Option Addr) (c0_2 : Nat) (l0_2 : List (S122)) (a0_3 : ByteArray) (a0_4 : Int) (A0_5 : Option Addr) (c0_5 : Nat) (l0_5 : List Int) (r : Bool) (w : World) (hr0_2 : Kd.C k122 w A0_2 l0_2.length l0_2) (hc0_2 : l0_2.length ≤ c0_2) (hr0_5 : Kd.C (Kd.int .i64) w A0_5 l0_5.length l0_5) (hc0_5 : l0_5.length ≤ c0_5) (h : dom_bare.f a0_0 a0_1 l0_2 a0_3 a0_4 l0_5 = some r) :
 Calls Tryd.prog 135 #[.agg #[.int .i64 a0_0, .string a0_1, .slice A0_2 l0_2.length c0_2, .string a0_3, .int .i64 a0_4, .slice A0_5 l0_5.length c0_5]] w fun e w' => e = .returned (.bool r) ∧ Below w.heap.size w w' := by
  obtain ⟨pv, hp⟩ : ∃ pv, dom_parent.f a0_0 = some pv := by unfold dom_parent.f; split <;> exact ⟨_, rfl⟩
  have hr : r = ((decide (a0_0 = 2) || decide (a0_0 = 5) || (a0_1.toList == ([] : List UInt8))) && (decide (a0_0 = 2) || ((l0_2.length : Int) == 0)) && (decide (a0_0 = 3) || decide (a0_0 = 4) || (a0_3.toList == ([] : List UInt8))) && (pv || ((l0_5.length : Int) == 0))) := by
   unfold dom_bare.f at h
   rw [hp] at h
   simp only [Option.bind_some] at h
   clear hp
   generalize ((l0_5.length : Int) == 0) = bc at h ⊢
   have bs : ∀ s : ByteArray, (s.toList == ([] : List UInt8)) = decide (s.toList = []) := fun s => by by_cases c : s.toList = [] <;> simp [c]
   have bl : ((l0_2.length : Int) == 0) = decide ((l0_2.length : Int) = 0) := rfl
   rw [bs, bs, bl]
   generalize (l0_2.length : Int) = L at h ⊢
   generalize a0_1.toList = X at h ⊢
   generalize a0_3.toList = Y at h ⊢
   by_cases k2 : a0_0 = 2
   ·subst k2; by_cases x : Y = [] <;> cases pv <;> simp [x] at h ⊢ <;> first | exact h.symm | exact h
   by_cases k3 : a0_0 = 3
   ·subst k3; by_cases x : X = [] <;> by_cases y : L = 0 <;> cases pv <;> simp [x, y] at h ⊢ <;> first | exact h.symm | exact h
   by_cases k4 : a0_0 = 4
   ·subst k4; by_cases x : X = [] <;> by_cases y : L = 0 <;> cases pv <;> simp [x, y] at h ⊢ <;> first | exact h.symm | exact h
   by_cases k5 : a0_0 = 5
   ·subst k5; by_cases x : Y = [] <;> by_cases y : L = 0 <;> cases pv <;> simp [x, y] at h ⊢ <;> first | exact h.symm | exact h
   by_cases x : X = [] <;> by_cases y : L = 0 <;> by_cases z : Y = [] <;> cases pv <;> simp [k2, k3, k4, k5, x, y, z] at h ⊢ <;> first | exact h.symm | exact h
  subst hr
  refine dom_bare.core a0_0 a0_1 A0_2 c0_2 l0_2 a0_3 a0_4 A0_5 c0_5 l0_5 _ _ _ _ _ _ _ _ pv w rfl rfl rfl rfl rfl rfl rfl rfl hp ?_
  by_cases k2 : a0_0 = 2
  ·subst k2; simp
  by_cases k3 : a0_0 = 3
  ·subst k3; simp
  by_cases k4 : a0_0 = 4
  ·subst k4; simp
  by_cases k5 : a0_0 = 5
  ·subst k5; simp
  simp [k2, k3, k4, k5]
def strings_IndexByte.f (a0 : ByteArray) (a1 : Int) : Option Int := some (Lib.indexByte a0.data.toList (UInt8.ofNat a1.toNat))
theorem strings_IndexByte.calls (a0 : ByteArray) (a1 : Int) (r : Int) (w : World) (h : strings_IndexByte.f a0 a1 = some r) :
 Calls Tryd.prog 154 #[.string a0, .int .u8 a1] w fun e w' => e = .returned (.int .i64 r) ∧ Drawn0 w w' := by
 obtain rfl := Option.some.inj h
 exact (Tryd.strings_IndexByte a0 a1 w).mono fun e w' ⟨he, hw⟩ => ⟨he, hw ▸ Drawn0.refl _⟩
def strings_Trim.f (a0 a1 : ByteArray) : Option ByteArray := if a0.size ≤ 140737488355328 ∧ a1.size ≤ 1000 ∧ a1.data.toList.all (fun b => decide (b.toNat < 128)) = true then some ⟨(Lib.trimS a0.data.toList a1.data.toList).toArray⟩ else none
theorem strings_Trim.calls (a0 a1 : ByteArray) (r : ByteArray) (w : World) (h : strings_Trim.f a0 a1 = some r) :
 Calls Tryd.prog 177 #[.string a0, .string a1] w fun e w' => e = .returned (.string r) ∧ Below w.heap.size w w' := by
 unfold strings_Trim.f at h
 split at h
 ·rename_i hs
  obtain rfl := Option.some.inj h
  exact Tryd.strings_Trim a0 a1 w (by omega) (by omega) (ascii_of_all hs.2.2)
 ·cases h
def dom_named.f (a0 : ByteArray) (a1 : ByteArray) : Option (Bool) := if a0.toList = ([] : List UInt8) then (some false) else (if (a0.size : Int) ≤ 40 then (if 0 < (a0.size : Int) then ((strings_IndexByte.f a1 (bt a0 0)).bind fun t204 => (if t204 ≥ 0 then ((strings_Trim.f a0 (⟨#[97, 98, 99, 100, 101, 102, 103, 104, 105, 106, 107, 108, 109, 110, 111, 112, 113, 114, 115, 116, 117, 118, 119, 120, 121, 122, 48, 49, 50, 51, 52, 53, 54, 55, 56, 57, 45, 95, 58]⟩ : ByteArray)).bind fun t205 => (some (t205.toList == ([] : List UInt8)))) else (some false))) else (none)) else (some false))
set_option maxHeartbeats 8000000 in
set_option maxRecDepth 100000 in
theorem dom_named.calls (a0 : ByteArray) (a1 : ByteArray) (r : Bool) (w : World) (h : dom_named.f a0 a1 = some r) :
 Calls Tryd.prog 159 #[.string a0, .string a1] w fun e w' => e = .returned (.bool r) ∧ Below w.heap.size w w' := by
 have HB := aS (Below.refl w.heap.size w)
 have H := h; clear h; unfold dom_named.f at H
 refine iE H ?p3 ?n3 <;> clear H
 case' p3 => intro c3b0 c3b1 H
 case' n3 => intro c3 c3b0 c3b1 H; refine iLN (m := a0.size) (n := 40) H rfl rfl ?p4 ?n4 <;> clear H
 case' p4 => intro c4b0 c4b1 H; refine iTNp (m := 0) (n := a0.size) H rfl rfl ?_; clear H; intro c5b0 c5b1 H; replace H := iB H; obtain ⟨t204, A7, H⟩ := H; refine iL H ?p8 ?n8 <;> clear H
 case' p8 => intro c8b0 H
 case' n8 => intro c8b0 H
 case' n4 => intro c4b0 c4b1 H
 case p3|n4 =>
  obtain rfl := Option.some.inj H
  go_enter Tryd.func159, Tryd.ntmps159
  go_wp2
  go_ret
  exact ⟨by first | rfl | (simp [q05, q04] <;> rfl) | (simp [*, q05, q04] <;> rfl), by repeat (first | (with_reducible first | exact HB.out | apply bA | apply bN | apply bD) | exact HB.out)⟩
 case p8 =>
  replace H := iB H
  obtain ⟨t205, A9, H⟩ := H
  obtain rfl := Option.some.inj H
  have p6 : 0 ≤ (0 : Int) := (by omega)
  have q6 : 0 < a0.size := (by have : (0 : Int) < (a0.size : Int) := od zb; omega)
  have hx6 : ∀ h : 0 < a0.size, ((a0[0]'h).toNat : Int) = bt a0 0 := bt_at a0 0
  clear p6
  have qi6 : (0 < (a0.size : Int)) = True := eq_true (od zb)
  replace q6 := eq_true q6
  go_enter Tryd.func159, Tryd.ntmps159
  go_wp2_with (first | (go_at_call 154; (with_reducible refine (strings_IndexByte.calls a1 (bt a0 0) t204 _ A7.out).mono ?_); rintro e w' ⟨rfl, ⟨nd, rfl⟩⟩) | (go_at_call 177; (with_reducible refine (strings_Trim.calls a0 (⟨#[97, 98, 99, 100, 101, 102, 103, 104, 105, 106, 107, 108, 109, 110, 111, 112, 113, 114, 115, 116, 117, 118, 119, 120, 121, 122, 48, 49, 50, 51, 52, 53, 54, 55, 56, 57, 45, 95, 58]⟩ : ByteArray) t205 _ A9.out).mono ?_); rintro e w10 ⟨rfl, hb⟩; replace HB := aS (q02 (z7 HB.out) hb); (try clear hb); (try clear hb2); (try clear hk); (try clear hi)))
  go_ret
  exact ⟨by first | rfl | (simp [q05, q04] <;> rfl) | (simp [*, q05, q04] <;> rfl), by repeat (first | (with_reducible first | exact HB.out | apply bA | apply bN | apply bD) | exact HB.out)⟩
 case n8 =>
  obtain rfl := Option.some.inj H
  have p6 : 0 ≤ (0 : Int) := (by omega)
  have q6 : 0 < a0.size := (by have : (0 : Int) < (a0.size : Int) := od zb; omega)
  have hx6 : ∀ h : 0 < a0.size, ((a0[0]'h).toNat : Int) = bt a0 0 := bt_at a0 0
  clear p6
  have qi6 : (0 < (a0.size : Int)) = True := eq_true (od zb)
  replace q6 := eq_true q6
  go_enter Tryd.func159, Tryd.ntmps159
  go_wp2_with (first | (go_at_call 154; (with_reducible refine (strings_IndexByte.calls a1 (bt a0 0) t204 _ A7.out).mono ?_); rintro e w' ⟨rfl, ⟨nd, rfl⟩⟩))
  go_ret
  exact ⟨by first | rfl | (simp [q05, q04] <;> rfl) | (simp [*, q05, q04] <;> rfl), by repeat (first | (with_reducible first | exact HB.out | apply bA | apply bN | apply bD) | exact HB.out)⟩
def dom_Name.f (a0 : ByteArray) : Option (Bool) := if 0 ≤ 26 then (if 26 ≤ 39 then ((dom_named.f a0 ((⟨#[97, 98, 99, 100, 101, 102, 103, 104, 105, 106, 107, 108, 109, 110, 111, 112, 113, 114, 115, 116, 117, 118, 119, 120, 121, 122, 48, 49, 50, 51, 52, 53, 54, 55, 56, 57, 45, 95, 58]⟩ : ByteArray).extract 0 26)).bind fun t206 => (some t206)) else (none)) else (none)
set_option maxHeartbeats 8000000 in
set_option maxRecDepth 100000 in
theorem dom_Name.calls (a0 : ByteArray) (r : Bool) (w : World) (h : dom_Name.f a0 = some r) :
 Calls Tryd.prog 136 #[.string a0] w fun e w' => e = .returned (.bool r) ∧ Below w.heap.size w w' := by
 have HB := aS (Below.refl w.heap.size w)
 have H := h; clear h; unfold dom_Name.f at H
 refine iGp H ?_; clear H; intro c2 H
 have c2b0 := eq_true c2
 have c2b1 : decide (0 ≤ 26) = true := decide_eq_true c2
 clear c2
 refine iGp H ?_; clear H; intro c3 H
 have c3b0 := eq_true c3
 have c3b1 : decide (26 ≤ 39) = true := decide_eq_true c3
 clear c3
 replace H := iB H
 obtain ⟨t206, A4, H⟩ := H
 obtain rfl := Option.some.inj H
 go_enter Tryd.func136, Tryd.ntmps136
 go_wp2_with (first | ((with_reducible refine q08 (f := 159) rfl ?_); refine q0n (some 5) rfl rfl Tryd.func159 (by kernel_rfl) rfl #[.string a0, .string ((⟨#[97, 98, 99, 100, 101, 102, 103, 104, 105, 106, 107, 108, 109, 110, 111, 112, 113, 114, 115, 116, 117, 118, 119, 120, 121, 122, 48, 49, 50, 51, 52, 53, 54, 55, 56, 57, 45, 95, 58]⟩ : ByteArray).extract 0 26)] rfl zc ?_; (with_reducible refine (dom_named.calls a0 ((⟨#[97, 98, 99, 100, 101, 102, 103, 104, 105, 106, 107, 108, 109, 110, 111, 112, 113, 114, 115, 116, 117, 118, 119, 120, 121, 122, 48, 49, 50, 51, 52, 53, 54, 55, 56, 57, 45, 95, 58]⟩ : ByteArray).extract 0 26) t206 _ A4.out).mono ?_); rintro e w5 ⟨rfl, hb⟩; refine ⟨_, rfl, ?_⟩; replace HB := aS (q02 (z7 HB.out) hb); (try clear hb); (try clear hb2); (try clear hk); (try clear hi)))
 go_ret
 exact ⟨by first | rfl | (simp [q05, q04] <;> rfl) | (simp [*, q05, q04] <;> rfl), by repeat (first | (with_reducible first | exact HB.out | apply bA | apply bN | apply bD) | exact HB.out)⟩
set_option maxHeartbeats 2000000 in
theorem api_Attr.idx (A0 : Option Addr) (c0 : Nat) (l0 : List S122) (p : S122 → Bool) (g : Nat) (lb : Array Value) (eg : ∀ args w, (callFunc g args).run Tryd.prog w = .ok (.enter g args) w) (w : World) (hr0 : Kd.C k122 w A0 l0.length l0) (hn : l0.length ≤ 9223372036854775807)
 (hp : ∀ W x cs, x ∈ l0 → Below w.heap.size w W → (k122).K W x cs → Calls Tryd.prog g (#[.agg cs.toArray] ++ lb) W fun e w' => e = .returned (.bool (p x)) ∧ Below W.heap.size W w') :
 Calls Tryd.prog 141 #[.slice A0 l0.length c0, .func (.func g) #[] lb] w fun e w' => e = .returned (.int .i64 (Cl.idxOf p l0)) ∧ Below w.heap.size w w' := by
 have hC := aS hr0
 have HP := aS hp
 have HN := aS hn
 clear hr0 hp
 go_enter Tryd.func141, Tryd.ntmps141
 go_wp2
 go_loopg [5, 8] l0.length (fun gg _ s8 wr => ∃ kk : Nat, kk ≤ l0.length ∧ l0.length - kk ≤ gg ∧ s8 = .int .i64 kk ∧ Aside0 (Below w.heap.size w wr) ∧ Aside0 (∀ j, j < kk → p (l0.getD j z122) = false))
 case atStart => exact ⟨0, Nat.zero_le _, by omega, rfl, ⟨Below.refl _ w⟩, ⟨fun j hj => absurd hj (Nat.not_lt_zero _)⟩⟩
 case round =>
  obtain ⟨kk, hkk, hg, rfl, BW, HA⟩ := hrel
  by_cases hlt : kk < l0.length
  ·have hltz : (kk : Int) < (l0.length : Int) := by omega
   obtain ⟨ad, cs, rfl, hcl, hK, hcc⟩ := Cl.getC (Kd.C_below hC.out BW.out) z122 kk hlt
   have hcall := HP.out wr (l0.getD kk z122) cs (Cl.mem_getD l0 kk z122 hlt) BW.out hK
   have hcl' : cs.length = 2 := hcl
   have hcc' : ∀ j u, cs[j]? = some u → wr.cell? (ad.add (kk * 2 + j)) = some u := hcc
   obtain ⟨u0_, u1_, rfl⟩ : ∃ u0_ u1_, cs = [u0_, u1_] := by
    match cs, hcl' with
    | [u0_, u1_], _ => exact ⟨u0_, u1_, rfl⟩
   have hz0 : wr.cell? (ad.add (kk * 2)) = some u0_ := hcc' 0 _ rfl
   have hz1 : wr.cell? ⟨(ad.add (kk * 2)).block, (ad.add (kk * 2)).off + 1, none⟩ = some u1_ := by rw [← q0u _ _ 1 (by omega)]; exact hcc' 1 _ rfl
   replace hcall : Calls Tryd.prog g (#[.agg #[u0_, u1_]] ++ lb) wr _ := hcall
   clear hcl hcc hK hcc'
   obtain ⟨x, hx⟩ : ∃ x, l0.getD kk z122 = x := ⟨_, rfl⟩
   rw [hx] at hcall
   have HX := aS hx
   clear hx
   cases hq : p x with
   | true =>
    rw [hq] at hcall
    have HQ := aS hq
    clear hq
    go_wp2_with (go_at_fn g; refine hcall.mono ?_; rintro e w' ⟨rfl, hb'⟩)
    go_ret
    refine ⟨?_, BW.out.trans (hb'.mono BW.out.size)⟩
    rw [Cl.idxOf_hit p z122 l0 kk hlt (by rw [HX.out]; exact HQ.out) HA.out]
    rfl
   | false =>
    rw [hq] at hcall
    have HQ := aS hq
    clear hq
    go_wp2_with (go_at_fn g; refine hcall.mono ?_; rintro e w' ⟨rfl, hb'⟩)
    go_roundg (l0.length - (kk + 1))
    case measure => omega
    case rel =>
     refine ⟨kk + 1, by omega, by omega, by go_num, ⟨BW.out.trans (hb'.mono BW.out.size)⟩, ⟨fun j hj => ?_⟩⟩
     by_cases e : j = kk
     ·subst e
      rw [HX.out]; exact HQ.out
     ·exact HA.out j (by omega)
  ·have hltz : ¬ (kk : Int) < (l0.length : Int) := by omega
   have : kk = l0.length := by omega
   subst this
   go_wp2
   go_ret
   refine ⟨?_, BW.out⟩
   rw [Cl.idxOf_miss p z122 l0 HA.out]
   rfl
def dom_find.f (l0 : List S122) (a1 : ByteArray) : Option Int := if l0.length * 32 ≤ 140737488355328 then some (Cl.idxOf (fun x => x.f0.toList == a1.toList) l0) else none
theorem dom_find.calls (A0 : Option Addr) (c0 : Nat) (l0 : List S122) (a1 : ByteArray) (r : Int) (w : World) (hr0 : Kd.C k122 w A0 l0.length l0) (hc0 : l0.length ≤ c0) (h : dom_find.f l0 a1 = some r) :
 Calls Tryd.prog 112 #[.slice A0 l0.length c0, .string a1] w fun e w' => e = .returned (.int .i64 r) ∧ Below w.heap.size w w' := by
 unfold dom_find.f at h
 split at h
 ·rename_i hs0
  have hr := Option.some.inj h
  clear h
  have eg : ∀ args w, (callFunc 142 args).run Tryd.prog w = .ok (.enter 142 args) w := enters_of Tryd.func142 (by kernel_rfl) rfl
  have hb0 : Below w.heap.size w (w.alloc (.cells #[.string a1] 9)) := (Below.refl _ w).alloc (Nat.le_refl _) _
  have hH := api_Attr.idx A0 c0 l0 (fun x => x.f0.toList == a1.toList) 142 #[.pointer (some ⟨w.heap.size, 0, none⟩)] eg _ (Kd.C_below hr0 hb0) (by omega) (fun W x cs hx hb hK => by
   obtain rfl := k122_open hK
   have hcell : W.cell? ⟨w.heap.size, 0, none⟩ = some (.string a1) := (hb.cell (p := ⟨w.heap.size, 0, none⟩) (by simp)).trans (by simp)
   have hlt : w.heap.size < W.heap.size := Nat.lt_of_lt_of_le (by simp) hb.size
   show Calls Tryd.prog 142 #[.agg #[.string x.f0, .string x.f1], .pointer (some ⟨w.heap.size, 0, none⟩)] W _
   have hne : w.heap.size ≠ W.heap.size := by omega
   clear hb hr hr0 hb0 hx hK
   go_enter Tryd.func142, Tryd.ntmps142
   go_wp2
   go_ret
   exact ⟨by first | rfl | simp, (Below.refl _ W).alloc (Nat.le_refl _) _⟩)
  rw [hr] at hH
  clear hr hr0
  go_enter Tryd.func112, Tryd.ntmps112
  go_wp2_with (go_at_call 141; refine hH.mono ?_; rintro e w' ⟨rfl, hb'⟩)
  go_ret
  exact ⟨rfl, ((Below.refl _ w).alloc (Nat.le_refl _) _).trans (hb'.mono (by simp))⟩
 ·cases h
def dom_attrName.f (a0 : ByteArray) : Option (Bool) := if 0 ≤ 26 then (if 26 ≤ 39 then (if ((⟨#[97, 98, 99, 100, 101, 102, 103, 104, 105, 106, 107, 108, 109, 110, 111, 112, 113, 114, 115, 116, 117, 118, 119, 120, 121, 122, 48, 49, 50, 51, 52, 53, 54, 55, 56, 57, 45, 95, 58]⟩ : ByteArray).extract 0 26).size + 2 ≤ 9223372036854775807 then ((dom_named.f a0 (((⟨#[97, 98, 99, 100, 101, 102, 103, 104, 105, 106, 107, 108, 109, 110, 111, 112, 113, 114, 115, 116, 117, 118, 119, 120, 121, 122, 48, 49, 50, 51, 52, 53, 54, 55, 56, 57, 45, 95, 58]⟩ : ByteArray).extract 0 26) ++ (⟨#[45, 95]⟩ : ByteArray))).bind fun t207 => (some t207)) else (none)) else (none)) else (none)
set_option maxHeartbeats 8000000 in
set_option maxRecDepth 100000 in
theorem dom_attrName.calls (a0 : ByteArray) (r : Bool) (w : World) (h : dom_attrName.f a0 = some r) :
 Calls Tryd.prog 160 #[.string a0] w fun e w' => e = .returned (.bool r) ∧ Below w.heap.size w w' := by
 have HB := aS (Below.refl w.heap.size w)
 have H := h; clear h; unfold dom_attrName.f at H
 refine iGp H ?_; clear H; intro c2 H
 have c2b0 := eq_true c2
 have c2b1 : decide (0 ≤ 26) = true := decide_eq_true c2
 clear c2
 refine iGp H ?_; clear H; intro c3 H
 have c3b0 := eq_true c3
 have c3b1 : decide (26 ≤ 39) = true := decide_eq_true c3
 clear c3
 refine iGp H ?_; clear H; intro c4 H
 have c4b0 := eq_true c4
 have c4b1 : decide (((⟨#[97, 98, 99, 100, 101, 102, 103, 104, 105, 106, 107, 108, 109, 110, 111, 112, 113, 114, 115, 116, 117, 118, 119, 120, 121, 122, 48, 49, 50, 51, 52, 53, 54, 55, 56, 57, 45, 95, 58]⟩ : ByteArray).extract 0 26).size + 2 ≤ 9223372036854775807) = true := decide_eq_true c4
 try have c4b2 : (9223372036854775807 < ((⟨#[97, 98, 99, 100, 101, 102, 103, 104, 105, 106, 107, 108, 109, 110, 111, 112, 113, 114, 115, 116, 117, 118, 119, 120, 121, 122, 48, 49, 50, 51, 52, 53, 54, 55, 56, 57, 45, 95, 58]⟩ : ByteArray).extract 0 26).size + 2) = False := eq_false (Nat.not_lt.2 c4)
 replace H := iB H
 obtain ⟨t207, A5, H⟩ := H
 obtain rfl := Option.some.inj H
 go_enter Tryd.func160, Tryd.ntmps160
 go_wp2_with (first | ((with_reducible refine q08 (f := 159) rfl ?_); refine q0n (some 6) rfl rfl Tryd.func159 (by kernel_rfl) rfl #[.string a0, .string (((⟨#[97, 98, 99, 100, 101, 102, 103, 104, 105, 106, 107, 108, 109, 110, 111, 112, 113, 114, 115, 116, 117, 118, 119, 120, 121, 122, 48, 49, 50, 51, 52, 53, 54, 55, 56, 57, 45, 95, 58]⟩ : ByteArray).extract 0 26) ++ (⟨#[45, 95]⟩ : ByteArray))] rfl zc ?_; (with_reducible refine (dom_named.calls a0 (((⟨#[97, 98, 99, 100, 101, 102, 103, 104, 105, 106, 107, 108, 109, 110, 111, 112, 113, 114, 115, 116, 117, 118, 119, 120, 121, 122, 48, 49, 50, 51, 52, 53, 54, 55, 56, 57, 45, 95, 58]⟩ : ByteArray).extract 0 26) ++ (⟨#[45, 95]⟩ : ByteArray)) t207 _ A5.out).mono ?_); rintro e w6 ⟨rfl, hb⟩; refine ⟨_, rfl, ?_⟩; replace HB := aS (q02 (z7 HB.out) hb); (try clear hb); (try clear hb2); (try clear hk); (try clear hi)))
 go_ret
 exact ⟨by first | rfl | (simp [q05, q04] <;> rfl) | (simp [*, q05, q04] <;> rfl), by repeat (first | (with_reducible first | exact HB.out | apply bA | apply bN | apply bD) | exact HB.out)⟩
def dom_attrs.l0 : Nat → List (S122) → List (S122) → Int → Int → Option (Int)
 | 0, _, _, _, _ => none
 | k + 1, x0, x8, x9, x10 => if x10 < x9 then (if 0 ≤ x10 then (if x10 < (x8.length : Int) then ((dom_attrName.f ((q0c x8 x10).f0)).bind fun t210 => (if t210 = true then (if (((q0c x8 x10).f1).size : Int) > 400 then (some 2) else (if x10 ≤ (x0.length : Int) then ((dom_find.f (x0.take (x10 : Int).toNat) ((q0c x8 x10).f0)).bind fun t215 => (if t215 ≥ 0 then (some 3) else (dom_attrs.l0 k x0 x8 x9 (wrap64 (x10 + 1))))) else (none))) else (some 3))) else (none)) else (none)) else (some 0)
def dom_attrs.f (k : Nat) (l0 : List (S122)) : Option (Int) := if (l0.length : Int) > 12 then (some 2) else (dom_attrs.l0 k l0 l0 (l0.length : Int) 0)
theorem dom_attrs.mono_l : ∀ k, (∀ y0 y1 y2 y3, LeO (dom_attrs.l0 k y0 y1 y2 y3) (dom_attrs.l0 (k + 1) y0 y1 y2 y3))
 | 0 => fun _ _ _ _ r h => by simp [dom_attrs.l0] at h
 | k + 1 => by
  have ih0 := dom_attrs.mono_l k
  ·intro y0 y1 y2 y3
   unfold dom_attrs.l0
   repeat' first | with_reducible first | apply ih0 | exact LeO.refl _ | exact LeO.none _ | refine LeO.ite ?_ ?_ | refine LeO.bind ?_ (fun _ => ?_) | (first | apply ih0 | exact LeO.none _ | refine LeO.ite ?_ ?_ | refine LeO.bind ?_ (fun _ => ?_))
theorem dom_attrs.mono : ∀ a0 k, LeO (dom_attrs.f k a0) (dom_attrs.f (k + 1) a0) := by
 intro a0 k
 have ih0 := dom_attrs.mono_l k
 unfold dom_attrs.f
 repeat' first | with_reducible first | apply ih0 | exact LeO.refl _ | exact LeO.none _ | refine LeO.ite ?_ ?_ | refine LeO.bind ?_ (fun _ => ?_) | (first | apply ih0 | exact LeO.none _ | refine LeO.ite ?_ ?_ | refine LeO.bind ?_ (fun _ => ?_))
def dom_attrs.T10 : Bool × List (List Nat × List Nat) := (true, [([], []), ([], []), ([0, 1], [0, 1]), ([], []), ([3], [3]), ([2, 4], [2, 4]), ([5], [5]), ([6, 5], [6])])
def dom_attrs.B10 : List Nat := [0, 0, 3, 0, 8, 31, 63, 127]
theorem dom_attrs.tab10 : rtab .any (opsOf Tryd.f137 10) = dom_attrs.T10 := by kernel_rfl
theorem dom_attrs.bits10 : waitsOk dom_attrs.T10.2 dom_attrs.B10 = true := by kernel_rfl
set_option maxHeartbeats 8000000 in
set_option maxRecDepth 100000 in
theorem dom_attrs.calls (k : Nat) (A0 : Option Addr) (c0 : Nat) (l0 : List (S122)) (r : Int) (w : World) (hr0 : Kd.C k122 w A0 l0.length l0) (hc0 : l0.length ≤ c0) (h : dom_attrs.f k l0 = some r) :
 Calls Tryd.prog 137 #[.slice A0 l0.length c0] w fun e w' => e = .returned (.int .i64 r) ∧ Below w.heap.size w w' := by
 have hu122 := Tryd.underlying122
 have HR0 := aS hr0
 have HC0 := aS hc0
 clear hr0 hc0
 have HB := aS (Below.refl w.heap.size w)
 have H := h; clear h; unfold dom_attrs.f at H
 refine iTN (m := 12) (n := l0.length) H rfl rfl ?p2 ?n2 <;> clear H
 case' p2 => intro c2b0 c2b1 H
 case' n2 => intro c2b0 c2b1 H
 case p2 =>
  obtain rfl := Option.some.inj H
  go_enter Tryd.func137, Tryd.ntmps137
  go_wp2
  go_ret
  exact ⟨by first | rfl | (simp [q05, q04] <;> rfl) | (simp [*, q05, q04] <;> rfl), by repeat (first | (with_reducible first | exact HB.out | apply bA | apply bN | apply bD) | exact HB.out)⟩
 case n2 =>
  have H' := aS H
  clear H
  go_enter Tryd.func137, Tryd.ntmps137
  go_wp2
  go_loopg [10] k (fun kq v10 w' => ∃ (x10_1 : Int), v10 = .int .i64 x10_1 ∧ Aside0 (dom_attrs.l0 kq l0 l0 (l0.length : Int) x10_1 = some r) ∧ Aside0 (kq ≤ k) ∧ Aside0 (Below w.heap.size w w'))
  case atStart => exact ⟨(0), zi, H', ⟨Nat.le_refl _⟩, ⟨by repeat (first | (with_reducible first | exact HB.out | apply bA | apply bN | apply bD) | exact HB.out)⟩⟩
  case round =>
   clear H'
   obtain ⟨x10_1, rfl, HA, HK1, HB⟩ := hrel
   cases gk with
   | zero => exact absurd HA.out (by simp [dom_attrs.l0])
   | succ k1 =>
    have H := HA.out
    clear HA
    simp only [dom_attrs.l0] at H
    refine iT H ?p3 ?n3 <;> clear H
    case' p3 => intro c3b0 H; refine iLp H ?_; clear H; intro c4b0 H; refine iTp H ?_; clear H; intro c5b0 H; replace H := iB H; obtain ⟨t210, A6, H⟩ := H; refine iV H ?p7 ?n7 <;> clear H
    case' p7 => intro c7 H; subst c7; refine iTN (m := 400) (n := ((q0c l0 x10_1).f1).size) H rfl rfl ?p8 ?n8 <;> clear H
    case' p8 => intro c8b0 c8b1 H
    case' n8 =>
     intro c8b0 c8b1 H
     have c13b0 := eq_true (od zb : 0 ≤ x10_1)
     refine iGp H ?_; clear H; intro c14 H
     have c14b0 := eq_true c14
     have c14b1 : decide (x10_1 ≤ (l0.length : Int)) = true := decide_eq_true c14
     clear c14
     obtain ⟨y211, hy211⟩ : ∃ y_ : List (S122), y_ = (l0.take (x10_1 : Int).toNat) := ⟨_, rfl⟩
     replace H : ((dom_find.f y211 ((q0c l0 x10_1).f0)).bind fun t215 => (if t215 ≥ 0 then (some 3) else (dom_attrs.l0 k1 l0 l0 (l0.length : Int) (wrap64 (x10_1 + 1))))) = some r := by first | (rw [hy211]; with_reducible exact H) | (have H2_ := (Option.bind_some _ _).symm.trans H; rw [hy211]; with_reducible exact H2_) | (have H2_ := (Option.bind_some _ _).symm.trans H; with_reducible exact H2_) | with_reducible exact H | (rw [hy211]; exact H) | exact H
     have Ny211 := aS hy211
     clear hy211
     replace H := iB H
     obtain ⟨t215, A15, H⟩ := H
     obtain ⟨ad208, e208, hx208_0, hx208_1, p208, q208⟩ := q12 HB.out HR0.out x10_1 zb zb
     cases e208
     refine iL H ?p16 ?n16 <;> clear H
    case' p16 => intro c16b0 H
    case' n16 => intro c16b0 H
    case' n7 => intro c7 H; subst c7
    case' n3 => intro c3b0 H
    case p8 =>
     obtain rfl := Option.some.inj H
     obtain ⟨ad208, e208, hx208_0, hx208_1, p208, q208⟩ := q12 HB.out HR0.out x10_1 zb zb
     cases e208
     go_wp2_with (first | ((with_reducible refine q07 (N := 4) rfl ?_); refine box0 rfl (N := 4) rfl (cs := #[.string (⟨#[]⟩ : ByteArray), .string (⟨#[]⟩ : ByteArray)]) (t := 122) zh (z7 HB.out) ?_; clear HB; intro gb209 w9 BK209 GW209 HB; have GE209 := GW209; obtain ⟨hczL_0, hczL_1, hfzL_0, hfzL_1⟩ := bk2 BK209.out) | ((with_reducible refine q08 (f := 160) rfl ?_); refine q0n (some 18) rfl rfl Tryd.func160 (by kernel_rfl) rfl #[.string ((q0c l0 x10_1).f0)] rfl zc ?_; (with_reducible refine (dom_attrName.calls ((q0c l0 x10_1).f0) true _ A6.out).mono ?_); rintro e w11 ⟨rfl, hb⟩; refine ⟨_, rfl, ?_⟩; replace BK209 := aS (q01 (g := gb209) (o := .cells #[.string ((q0c l0 x10_1).f0), .string ((q0c l0 x10_1).f1)] 122 (0, 0)) (by (with_reducible repeat (first | refine kN ?_ _ | refine kD ?_ | refine kA ?_ _)); refine q0h (cs := #[.string ((q0c l0 x10_1).f0), .string (⟨#[]⟩ : ByteArray)]) ?_ 1 _ rfl; (with_reducible repeat (first | refine kN ?_ _ | refine kD ?_ | refine kA ?_ _)); refine q0h (cs := #[.string (⟨#[]⟩ : ByteArray), .string (⟨#[]⟩ : ByteArray)]) ?_ 0 _ rfl; (with_reducible repeat (first | refine kN ?_ _ | refine kD ?_ | refine kA ?_ _)); exact BK209.out) hb); replace HB := aS (q02 (z6 HB.out GE209.out) hb); (try clear hb); (try clear hb2); (try clear hk); (try clear hi); obtain ⟨hczL_0, hczL_1, hfzL_0, hfzL_1⟩ := bk2 BK209.out))
     go_ret
     exact ⟨by first | rfl | (simp [q05, q04] <;> rfl) | (simp [*, q05, q04] <;> rfl), by repeat (first | (with_reducible first | exact HB.out | apply bA | apply bN | apply bD | refine bS ?_ GE209.out) | exact HB.out)⟩
    case p16 =>
     obtain rfl := Option.some.inj H
     try go_wp2_with (first | ((with_reducible refine q07 (N := 4) rfl ?_); refine box0 rfl (N := 4) rfl (cs := #[.string (⟨#[]⟩ : ByteArray), .string (⟨#[]⟩ : ByteArray)]) (t := 122) zh (z7 HB.out) ?_; clear HB; intro gb209 w17 BK209 GW209 HB; have GE209 := GW209; obtain ⟨hczL_0, hczL_1, hfzL_0, hfzL_1⟩ := bk2 BK209.out) | ((with_reducible refine q08 (f := 160) rfl ?_); refine q0n (some 18) rfl rfl Tryd.func160 (by kernel_rfl) rfl #[.string ((q0c l0 x10_1).f0)] rfl zc ?_; (with_reducible refine (dom_attrName.calls ((q0c l0 x10_1).f0) true _ A6.out).mono ?_); rintro e w19 ⟨rfl, hb⟩; refine ⟨_, rfl, ?_⟩; replace BK209 := aS (q01 (g := gb209) (o := .cells #[.string ((q0c l0 x10_1).f0), .string ((q0c l0 x10_1).f1)] 122 (0, 0)) (by (with_reducible repeat (first | refine kN ?_ _ | refine kD ?_ | refine kA ?_ _)); refine q0h (cs := #[.string ((q0c l0 x10_1).f0), .string (⟨#[]⟩ : ByteArray)]) ?_ 1 _ rfl; (with_reducible repeat (first | refine kN ?_ _ | refine kD ?_ | refine kA ?_ _)); refine q0h (cs := #[.string (⟨#[]⟩ : ByteArray), .string (⟨#[]⟩ : ByteArray)]) ?_ 0 _ rfl; (with_reducible repeat (first | refine kN ?_ _ | refine kD ?_ | refine kA ?_ _)); exact BK209.out) hb); replace HB := aS (q02 (z6 HB.out GE209.out) hb); (try clear hb); (try clear hb2); (try clear hk); (try clear hi); obtain ⟨hczL_0, hczL_1, hfzL_0, hfzL_1⟩ := bk2 BK209.out))
     have n0_ := aS (q0v BK209.out)
     have n1_ := aS (q0t HB.out)
     clear BK209
     clear HB
     have BK209 := n0_
     have HB := n1_
     clear n0_ n1_
     have q22 : (x10_1 : Int) ≤ ((l0.length : Int) : Int) := od zb
     obtain ⟨i022, hi022, _, hsz22, _⟩ := info_parts info122
     have hroom22 : l0.length ≤ c0 := HC0.out
     have hC22 : Kd.C k122 _ (some ad208) l0.length l0 := HR0.out
     have hcut22 := cut_to (P := Tryd.prog) 41 122 .i64 Tryd.underlying41 hi022 (some ad208) l0.length c0 x10_1 (od zb) q22 hroom22
     have hr22 := Kd.C_take (m := (x10_1 : Int).toNat) hC22 (by omega)
     have hy22 : y211.length = (x10_1 : Int).toNat := (by rw [Ny211.out, List.length_take]; omega)
     rw [← Ny211.out] at hr22
     rw [← hy22] at hcut22
     have HR214 := aS hr22
     have HC214 := aS (show y211.length ≤ c0 from by omega)
     clear hr22 hC22 hroom22 hi022 hsz22
     have KY22 := aS hy22
     clear hy22
     replace q22 := eq_true q22
     refine start_ (n := 8) (S := fun w' => w'.cell? ⟨gb209, 0, none⟩ = some (.string ((q0c l0 x10_1).f0)) ∧ w'.cell? ⟨gb209, 1, none⟩ = some (.string ((q0c l0 x10_1).f1))) (ds := []) #[false, false, false, false, false, false, false, false] (by kernel_rfl) rfl rfl ⟨(q03 BK209.out 0).trans rfl, (q03 BK209.out 1).trans rfl⟩ (fun hHeld => ?_); refine q14 dom_attrs.tab10 dom_attrs.bits10 (fun HT_ HW_ => ?_)
     generalize w19.drew = w21 at BK209 HB HR214 hHeld ⊢
     refine q0e (i := 0) (N := some 26) (v := ?_) (a' := ?_) #[true, false, false, false, false, false, false, false] rfl rfl (q0b HT_.out (by kernel_rfl)) (fun _ _ _ h => h) (Or.inl ⟨by rfl, ?_⟩) ?_ ?_
     rotate_left
     ·intro w'
      go_simp
      with_reducible rfl
     rotate_left
     ·simp only [Act.put, s1, s2, s3, q09, q0a]
      rfl
     refine q0e (i := 1) (N := some 27) (v := ?_) (a' := ?_) #[true, true, false, false, false, false, false, false] rfl rfl (q0b HT_.out (by kernel_rfl)) (fun _ _ _ h => h) (Or.inl ⟨by rfl, ?_⟩) ?_ ?_
     rotate_left
     ·intro w'
      go_simp
      with_reducible rfl
     rotate_left
     ·simp only [Act.put, s1, s2, s3, q09, q0a]
      rfl
     refine q0e (i := 2) (N := some 28) (v := ?_) (a' := ?_) #[true, true, true, false, false, false, false, false] rfl rfl (q0b HT_.out (by kernel_rfl)) (fun _ _ _ h => h) (Or.inl ⟨by rfl, ?_⟩) ?_ ?_
     rotate_left
     ·intro w'
      go_simp
      with_reducible rfl
     rotate_left
     ·simp only [Act.put, s1, s2, s3, q09, q0a]
      rfl
     refine q0e (i := 3) (N := some 29) (v := ?_) (a' := ?_) #[true, true, true, true, false, false, false, false] rfl rfl (q0b HT_.out (by kernel_rfl)) (fun _ _ _ h => h) (Or.inl ⟨by rfl, ?_⟩) ?_ ?_
     rotate_left
     ·intro w'
      go_simp
      with_reducible rfl
     rotate_left
     ·simp only [Act.put, s1, s2, s3, q09, q0a]
      rfl
     refine take_ (i := 4) (N := some 30) (v := ?_) (a' := ?_) #[true, true, true, true, true, false, false, false] rfl rfl (q0m HT_.out HW_.out (by kernel_rfl)) (fun _ _ _ h => h) (Or.inl ⟨by rfl, ?_⟩) hHeld ?_ ?_
     rotate_left
     ·rintro w' ⟨s0, s1⟩
      go_simp
      with_reducible rfl
     rotate_left
     ·simp only [Act.put, s1, s2, s3, q09, q0a]
      rfl
     refine one_ (i := 5) (N := some 31) #[true, true, true, true, true, true, false, false] rfl rfl (q1j HT_.out (by kernel_rfl)) (by decide) (fun K hK => ?_)
     refine goes_ Tryd.func112 (by kernel_rfl) rfl #[.slice (some ad208) y211.length c0, .string ((q0c l0 x10_1).f0)] (by rfl) rfl rfl zc ?_
     with_reducible refine (dom_find.calls _ _ y211 ((q0c l0 x10_1).f0) t215 _ ?side1 ?side2 A15.out).mono ?_
     (case side1 => repeat (first | exact (Kd.C_below HR214.out HB.out) | (with_reducible refine cA ?_ _) | (with_reducible refine cN ?_ _) | (with_reducible refine cD ?_)))
     (case side2 => exact HC214.out)
     rintro e w23 ⟨rfl, hb⟩
     refine ⟨_, rfl, ?_⟩
     have n0_ := aS (q01 (g := gb209) (o := .cells #[.string ((q0c l0 x10_1).f0), .string ((q0c l0 x10_1).f1)] 122 (0, 0)) (za BK209.out) hb)
     have n1_ := aS (q02 (z6 HB.out GE209.out) hb)
     clear BK209
     clear HB
     have BK209 := n0_
     have HB := n1_
     clear n0_ n1_
     (try clear hb)
     (try clear hb2)
     (try clear hk)
     (try clear hi)
     refine hK.out _ _ ⟨(q03 BK209.out 0).trans rfl, (q03 BK209.out 1).trans rfl⟩ (fun hHeld => ?_)
     clear hK K
     refine norm_ (a' := ?_) ?_ ?_
     rotate_left
     ·show Act.put _ (some 31) _ = _
      simp only [Act.put, s1, s2, s3, q09, q0a]
      rfl
     refine q0e (i := 6) (N := some 32) (v := ?_) (a' := ?_) #[true, true, true, true, true, true, true, false] rfl rfl (q0b HT_.out (by kernel_rfl)) (fun _ _ _ h => h) (Or.inl ⟨by rfl, ?_⟩) ?_ ?_
     rotate_left
     ·intro w'
      go_simp
      with_reducible rfl
     rotate_left
     ·simp only [Act.put, s1, s2, s3, q09, q0a]
      rfl
     refine q0e (i := 7) (N := some 25) (v := ?_) (a' := ?_) #[true, true, true, true, true, true, true, true] rfl rfl (q0b HT_.out (by kernel_rfl)) (fun _ _ _ h => h) (Or.inl ⟨by rfl, ?_⟩) ?_ ?_
     rotate_left
     ·intro w'
      go_simp
      with_reducible rfl
     rotate_left
     ·simp only [Act.put, s1, s2, s3, q09, q0a]
      rfl
     refine done_ (q1l HT_.out (by kernel_rfl)) ?_
     try go_wp2
     go_ret
     exact ⟨by first | rfl | (simp [q05, q04] <;> rfl) | (simp [*, q05, q04] <;> rfl), by repeat (first | (with_reducible first | exact HB.out | apply bA | apply bN | apply bD | refine bS ?_ GE209.out) | exact HB.out)⟩
    case n16 =>
     have H' := aS H
     clear H
     try go_wp2_with (first | ((with_reducible refine q07 (N := 4) rfl ?_); refine box0 rfl (N := 4) rfl (cs := #[.string (⟨#[]⟩ : ByteArray), .string (⟨#[]⟩ : ByteArray)]) (t := 122) zh (z7 HB.out) ?_; clear HB; intro gb209 w24 BK209 GW209 HB; have GE209 := GW209; obtain ⟨hczL_0, hczL_1, hfzL_0, hfzL_1⟩ := bk2 BK209.out) | ((with_reducible refine q08 (f := 160) rfl ?_); refine q0n (some 18) rfl rfl Tryd.func160 (by kernel_rfl) rfl #[.string ((q0c l0 x10_1).f0)] rfl zc ?_; (with_reducible refine (dom_attrName.calls ((q0c l0 x10_1).f0) true _ A6.out).mono ?_); rintro e w26 ⟨rfl, hb⟩; refine ⟨_, rfl, ?_⟩; replace BK209 := aS (q01 (g := gb209) (o := .cells #[.string ((q0c l0 x10_1).f0), .string ((q0c l0 x10_1).f1)] 122 (0, 0)) (by (with_reducible repeat (first | refine kN ?_ _ | refine kD ?_ | refine kA ?_ _)); refine q0h (cs := #[.string ((q0c l0 x10_1).f0), .string (⟨#[]⟩ : ByteArray)]) ?_ 1 _ rfl; (with_reducible repeat (first | refine kN ?_ _ | refine kD ?_ | refine kA ?_ _)); refine q0h (cs := #[.string (⟨#[]⟩ : ByteArray), .string (⟨#[]⟩ : ByteArray)]) ?_ 0 _ rfl; (with_reducible repeat (first | refine kN ?_ _ | refine kD ?_ | refine kA ?_ _)); exact BK209.out) hb); replace HB := aS (q02 (z6 HB.out GE209.out) hb); (try clear hb); (try clear hb2); (try clear hk); (try clear hi); obtain ⟨hczL_0, hczL_1, hfzL_0, hfzL_1⟩ := bk2 BK209.out))
     have n0_ := aS (q0v BK209.out)
     have n1_ := aS (q0t HB.out)
     clear BK209
     clear HB
     have BK209 := n0_
     have HB := n1_
     clear n0_ n1_
     have q29 : (x10_1 : Int) ≤ ((l0.length : Int) : Int) := od zb
     obtain ⟨i029, hi029, _, hsz29, _⟩ := info_parts info122
     have hroom29 : l0.length ≤ c0 := HC0.out
     have hC29 : Kd.C k122 _ (some ad208) l0.length l0 := HR0.out
     have hcut29 := cut_to (P := Tryd.prog) 41 122 .i64 Tryd.underlying41 hi029 (some ad208) l0.length c0 x10_1 (od zb) q29 hroom29
     have hr29 := Kd.C_take (m := (x10_1 : Int).toNat) hC29 (by omega)
     have hy29 : y211.length = (x10_1 : Int).toNat := (by rw [Ny211.out, List.length_take]; omega)
     rw [← Ny211.out] at hr29
     rw [← hy29] at hcut29
     have HR214 := aS hr29
     have HC214 := aS (show y211.length ≤ c0 from by omega)
     clear hr29 hC29 hroom29 hi029 hsz29
     have KY29 := aS hy29
     clear hy29
     replace q29 := eq_true q29
     refine start_ (n := 8) (S := fun w' => w'.cell? ⟨gb209, 0, none⟩ = some (.string ((q0c l0 x10_1).f0)) ∧ w'.cell? ⟨gb209, 1, none⟩ = some (.string ((q0c l0 x10_1).f1))) (ds := []) #[false, false, false, false, false, false, false, false] (by kernel_rfl) rfl rfl ⟨(q03 BK209.out 0).trans rfl, (q03 BK209.out 1).trans rfl⟩ (fun hHeld => ?_); refine q14 dom_attrs.tab10 dom_attrs.bits10 (fun HT_ HW_ => ?_)
     generalize w26.drew = w28 at BK209 HB HR214 hHeld ⊢
     refine q0e (i := 0) (N := some 26) (v := ?_) (a' := ?_) #[true, false, false, false, false, false, false, false] rfl rfl (q0b HT_.out (by kernel_rfl)) (fun _ _ _ h => h) (Or.inl ⟨by rfl, ?_⟩) ?_ ?_
     rotate_left
     ·intro w'
      go_simp
      with_reducible rfl
     rotate_left
     ·simp only [Act.put, s1, s2, s3, q09, q0a]
      rfl
     refine q0e (i := 1) (N := some 27) (v := ?_) (a' := ?_) #[true, true, false, false, false, false, false, false] rfl rfl (q0b HT_.out (by kernel_rfl)) (fun _ _ _ h => h) (Or.inl ⟨by rfl, ?_⟩) ?_ ?_
     rotate_left
     ·intro w'
      go_simp
      with_reducible rfl
     rotate_left
     ·simp only [Act.put, s1, s2, s3, q09, q0a]
      rfl
     refine q0e (i := 2) (N := some 28) (v := ?_) (a' := ?_) #[true, true, true, false, false, false, false, false] rfl rfl (q0b HT_.out (by kernel_rfl)) (fun _ _ _ h => h) (Or.inl ⟨by rfl, ?_⟩) ?_ ?_
     rotate_left
     ·intro w'
      go_simp
      with_reducible rfl
     rotate_left
     ·simp only [Act.put, s1, s2, s3, q09, q0a]
      rfl
     refine q0e (i := 3) (N := some 29) (v := ?_) (a' := ?_) #[true, true, true, true, false, false, false, false] rfl rfl (q0b HT_.out (by kernel_rfl)) (fun _ _ _ h => h) (Or.inl ⟨by rfl, ?_⟩) ?_ ?_
     rotate_left
     ·intro w'
      go_simp
      with_reducible rfl
     rotate_left
     ·simp only [Act.put, s1, s2, s3, q09, q0a]
      rfl
     refine take_ (i := 4) (N := some 30) (v := ?_) (a' := ?_) #[true, true, true, true, true, false, false, false] rfl rfl (q0m HT_.out HW_.out (by kernel_rfl)) (fun _ _ _ h => h) (Or.inl ⟨by rfl, ?_⟩) hHeld ?_ ?_
     rotate_left
     ·rintro w' ⟨s0, s1⟩
      go_simp
      with_reducible rfl
     rotate_left
     ·simp only [Act.put, s1, s2, s3, q09, q0a]
      rfl
     refine one_ (i := 5) (N := some 31) #[true, true, true, true, true, true, false, false] rfl rfl (q1j HT_.out (by kernel_rfl)) (by decide) (fun K hK => ?_)
     refine goes_ Tryd.func112 (by kernel_rfl) rfl #[.slice (some ad208) y211.length c0, .string ((q0c l0 x10_1).f0)] (by rfl) rfl rfl zc ?_
     with_reducible refine (dom_find.calls _ _ y211 ((q0c l0 x10_1).f0) t215 _ ?side1 ?side2 A15.out).mono ?_
     (case side1 => repeat (first | exact (Kd.C_below HR214.out HB.out) | (with_reducible refine cA ?_ _) | (with_reducible refine cN ?_ _) | (with_reducible refine cD ?_)))
     (case side2 => exact HC214.out)
     rintro e w30 ⟨rfl, hb⟩
     refine ⟨_, rfl, ?_⟩
     have n0_ := aS (q01 (g := gb209) (o := .cells #[.string ((q0c l0 x10_1).f0), .string ((q0c l0 x10_1).f1)] 122 (0, 0)) (za BK209.out) hb)
     have n1_ := aS (q02 (z6 HB.out GE209.out) hb)
     clear BK209
     clear HB
     have BK209 := n0_
     have HB := n1_
     clear n0_ n1_
     (try clear hb)
     (try clear hb2)
     (try clear hk)
     (try clear hi)
     refine hK.out _ _ ⟨(q03 BK209.out 0).trans rfl, (q03 BK209.out 1).trans rfl⟩ (fun hHeld => ?_)
     clear hK K
     refine norm_ (a' := ?_) ?_ ?_
     rotate_left
     ·show Act.put _ (some 31) _ = _
      simp only [Act.put, s1, s2, s3, q09, q0a]
      rfl
     refine q0e (i := 6) (N := some 32) (v := ?_) (a' := ?_) #[true, true, true, true, true, true, true, false] rfl rfl (q0b HT_.out (by kernel_rfl)) (fun _ _ _ h => h) (Or.inl ⟨by rfl, ?_⟩) ?_ ?_
     rotate_left
     ·intro w'
      go_simp
      with_reducible rfl
     rotate_left
     ·simp only [Act.put, s1, s2, s3, q09, q0a]
      rfl
     refine q0e (i := 7) (N := some 25) (v := ?_) (a' := ?_) #[true, true, true, true, true, true, true, true] rfl rfl (q0b HT_.out (by kernel_rfl)) (fun _ _ _ h => h) (Or.inl ⟨by rfl, ?_⟩) ?_ ?_
     rotate_left
     ·intro w'
      go_simp
      with_reducible rfl
     rotate_left
     ·simp only [Act.put, s1, s2, s3, q09, q0a]
      rfl
     refine done_ (q1l HT_.out (by kernel_rfl)) ?_
     try go_wp2
     go_roundg k1
     case measure => have := HK1.out; omega
     case rel => exact ⟨(wrap64 (x10_1 + 1)), zi, H', ⟨by have := HK1.out; omega⟩, ⟨by repeat (first | (with_reducible first | exact HB.out | apply bA | apply bN | apply bD | refine bS ?_ GE209.out) | exact HB.out)⟩⟩
    case n7 =>
     obtain rfl := Option.some.inj H
     obtain ⟨ad208, e208, hx208_0, hx208_1, p208, q208⟩ := q12 HB.out HR0.out x10_1 zb zb
     cases e208
     go_wp2_with (first | ((with_reducible refine q07 (N := 4) rfl ?_); refine box0 rfl (N := 4) rfl (cs := #[.string (⟨#[]⟩ : ByteArray), .string (⟨#[]⟩ : ByteArray)]) (t := 122) zh (z7 HB.out) ?_; clear HB; intro gb209 w31 BK209 GW209 HB; have GE209 := GW209; obtain ⟨hczL_0, hczL_1, hfzL_0, hfzL_1⟩ := bk2 BK209.out) | ((with_reducible refine q08 (f := 160) rfl ?_); refine q0n (some 18) rfl rfl Tryd.func160 (by kernel_rfl) rfl #[.string ((q0c l0 x10_1).f0)] rfl zc ?_; (with_reducible refine (dom_attrName.calls ((q0c l0 x10_1).f0) false _ A6.out).mono ?_); rintro e w33 ⟨rfl, hb⟩; refine ⟨_, rfl, ?_⟩; replace BK209 := aS (q01 (g := gb209) (o := .cells #[.string ((q0c l0 x10_1).f0), .string ((q0c l0 x10_1).f1)] 122 (0, 0)) (by (with_reducible repeat (first | refine kN ?_ _ | refine kD ?_ | refine kA ?_ _)); refine q0h (cs := #[.string ((q0c l0 x10_1).f0), .string (⟨#[]⟩ : ByteArray)]) ?_ 1 _ rfl; (with_reducible repeat (first | refine kN ?_ _ | refine kD ?_ | refine kA ?_ _)); refine q0h (cs := #[.string (⟨#[]⟩ : ByteArray), .string (⟨#[]⟩ : ByteArray)]) ?_ 0 _ rfl; (with_reducible repeat (first | refine kN ?_ _ | refine kD ?_ | refine kA ?_ _)); exact BK209.out) hb); replace HB := aS (q02 (z6 HB.out GE209.out) hb); (try clear hb); (try clear hb2); (try clear hk); (try clear hi)))
     go_ret
     exact ⟨by first | rfl | (simp [q05, q04] <;> rfl) | (simp [*, q05, q04] <;> rfl), by repeat (first | (with_reducible first | exact HB.out | apply bA | apply bN | apply bD | refine bS ?_ GE209.out) | exact HB.out)⟩
    case n3 =>
     obtain rfl := Option.some.inj H
     go_wp2
     go_ret
     exact ⟨by first | rfl | (simp [q05, q04] <;> rfl) | (simp [*, q05, q04] <;> rfl), by repeat (first | (with_reducible first | exact HB.out | apply bA | apply bN | apply bD) | exact HB.out)⟩
mutual
def dom_one.j1 : Nat → Int → ByteArray → List (S122) → ByteArray → Int → List Int → Option (Int)
 | 0, _, _, _, _, _, _ => none
 | k + 1, x217000, x217001, x217002, x217003, x217004, x217005 => (dom_attrs.f k x217002).bind fun t219 => (if t219 = 0 then (if (x217003.size : Int) > 400 then (some 2) else (if (x217001.size : Int) > 400 then (some 2) else (some 0))) else (some t219))
def dom_one.j0 : Nat → Bool → Int → ByteArray → List (S122) → ByteArray → Int → List Int → Option (Int)
 | 0, _, _, _, _, _, _, _ => none
 | k + 1, x4, x217000, x217001, x217002, x217003, x217004, x217005 => if x4 = true then (some 7) else (if x217000 = 2 then ((dom_Name.f x217001).bind fun t218 => (if t218 = true then (dom_one.j1 k x217000 x217001 x217002 x217003 x217004 x217005) else (some 3))) else (dom_one.j1 k x217000 x217001 x217002 x217003 x217004 x217005))
end
def dom_one.f (k : Nat) (a0_0 : Int) (a0_1 : ByteArray) (l0_2 : List (S122)) (a0_3 : ByteArray) (a0_4 : Int) (l0_5 : List Int) : Option (Int) := if a0_0 < 1 then (dom_one.j0 k true a0_0 a0_1 l0_2 a0_3 a0_4 l0_5) else (if a0_0 > 5 then (dom_one.j0 k true a0_0 a0_1 l0_2 a0_3 a0_4 l0_5) else ((dom_bare.f a0_0 a0_1 l0_2 a0_3 a0_4 l0_5).bind fun t217 => (dom_one.j0 k (!t217) a0_0 a0_1 l0_2 a0_3 a0_4 l0_5)))
theorem dom_one.mono_l : ∀ k, (∀ y0 y1 y2 y3 y4 y5, LeO (dom_one.j1 k y0 y1 y2 y3 y4 y5) (dom_one.j1 (k + 1) y0 y1 y2 y3 y4 y5)) ∧ (∀ y0 y1 y2 y3 y4 y5 y6, LeO (dom_one.j0 k y0 y1 y2 y3 y4 y5 y6) (dom_one.j0 (k + 1) y0 y1 y2 y3 y4 y5 y6))
 | 0 => ⟨fun _ _ _ _ _ _ r h => by simp [dom_one.j1] at h, fun _ _ _ _ _ _ _ r h => by simp [dom_one.j0] at h⟩
 | k + 1 => by
  obtain ⟨ih0, ih1⟩ := dom_one.mono_l k
  refine ⟨?_, ?_⟩
  all_goals intros
  all_goals (first | unfold dom_one.j1 | unfold dom_one.j0)
  all_goals (repeat' first | with_reducible first | apply ih0 | apply ih1 | apply dom_attrs.mono | exact LeO.refl _ | exact LeO.none _ | refine LeO.ite ?_ ?_ | refine LeO.bind ?_ (fun _ => ?_) | (first | apply ih0 | apply ih1 | apply dom_attrs.mono | exact LeO.none _ | refine LeO.ite ?_ ?_ | refine LeO.bind ?_ (fun _ => ?_)))
theorem dom_one.mono : ∀ a0 a1 a2 a3 a4 a5 k, LeO (dom_one.f k a0 a1 a2 a3 a4 a5) (dom_one.f (k + 1) a0 a1 a2 a3 a4 a5) := by
 intro a0 a1 a2 a3 a4 a5 k
 obtain ⟨ih0, ih1⟩ := dom_one.mono_l k
 unfold dom_one.f
 repeat' first | with_reducible first | apply ih0 | apply ih1 | apply dom_attrs.mono | exact LeO.refl _ | exact LeO.none _ | refine LeO.ite ?_ ?_ | refine LeO.bind ?_ (fun _ => ?_) | (first | apply ih0 | apply ih1 | apply dom_attrs.mono | exact LeO.none _ | refine LeO.ite ?_ ?_ | refine LeO.bind ?_ (fun _ => ?_))
set_option maxHeartbeats 8000000 in
set_option maxRecDepth 100000 in
theorem dom_one.calls (k : Nat) (a0_0 : Int) (a0_1 : ByteArray) (A0_2 : Option Addr) (c0_2 : Nat) (l0_2 : List (S122)) (a0_3 : ByteArray) (a0_4 : Int) (A0_5 : Option Addr) (c0_5 : Nat) (l0_5 : List Int) (r : Int) (w : World) (hr0_2 : Kd.C k122 w A0_2 l0_2.length l0_2) (hc0_2 : l0_2.length ≤ c0_2) (hr0_5 : Kd.C (Kd.int .i64) w A0_5 l0_5.length l0_5) (hc0_5 : l0_5.length ≤ c0_5) (h : dom_one.f k a0_0 a0_1 l0_2 a0_3 a0_4 l0_5 = some r) :
 Calls Tryd.prog 100 #[.agg #[.int .i64 a0_0, .string a0_1, .slice A0_2 l0_2.length c0_2, .string a0_3, .int .i64 a0_4, .slice A0_5 l0_5.length c0_5]] w fun e w' => e = .returned (.int .i64 r) ∧ Below w.heap.size w w' := by
 have hu43 := Tryd.underlying43
 have HR0_2 := aS hr0_2
 have HC0_2 := aS hc0_2
 clear hr0_2 hc0_2
 have HR0_5 := aS hr0_5
 have HC0_5 := aS hc0_5
 clear hr0_5 hc0_5
 have HB := aS (Below.refl w.heap.size w)
 have H := h; clear h; unfold dom_one.f at H
 have HC2 := aS H
 clear H
 go_enter Tryd.func100, Tryd.ntmps100
 go_upto_block 0 with (first | ((with_reducible refine q07 (N := 1) rfl ?_); (try (refine q0z (by rfl) ?_; dsimp only)); refine box0 rfl (N := 1) rfl (cs := #[.int .i64 a0_0, .string a0_1, .slice A0_2 l0_2.length c0_2, .string a0_3, .int .i64 a0_4, .slice A0_5 l0_5.length c0_5]) (t := 43) zh (z7 HB.out) ?_; clear HB; intro gb216 w3 BK216 GW216 HB; have GE216 := GW216))
 (try simp only [Act.put, s1, s2, s3])
 go_cut [] (fun wc => ∃ (kq : Nat), Aside0 (dom_one.j1 kq a0_0 a0_1 l0_2 a0_3 a0_4 l0_5 = some r) ∧ Aside0 (kq ≤ k) ∧ Aside0 (wc.heap[gb216]? = some (.cells #[.int .i64 a0_0, .string a0_1, (.slice A0_2 l0_2.length c0_2), .string a0_3, .int .i64 a0_4, (.slice A0_5 l0_5.length c0_5)] 43 (0, 0))) ∧ Aside0 (Below w.heap.size w wc))
 case first =>
  have H := HC2.out
  clear HC2
  have HC4 := aS H
  clear H
  go_upto_region 1 with (fail)
  go_cut [4] (fun v4 wc => ∃ (kq : Nat) (x4_3 : Bool), v4 = .bool x4_3 ∧ Aside0 (dom_one.j0 kq x4_3 a0_0 a0_1 l0_2 a0_3 a0_4 l0_5 = some r) ∧ Aside0 (kq ≤ k) ∧ Aside0 (wc.heap[gb216]? = some (.cells #[.int .i64 a0_0, .string a0_1, (.slice A0_2 l0_2.length c0_2), .string a0_3, .int .i64 a0_4, (.slice A0_5 l0_5.length c0_5)] 43 (0, 0))) ∧ Aside0 (Below w.heap.size w wc))
  case first =>
   have H := HC4.out
   clear HC4
   refine iT H ?p5 ?n5 <;> clear H
   case' p5 => intro c5b0 H
   case' n5 => intro c5b0 H; (first | rw [c5b0] | (simp only [q09, q0a]; rw [c5b0]) | skip); refine iT H ?p7 ?n7 <;> clear H
   case' p7 => intro c7b0 H
   case' n7 => intro c7b0 H
   case p5 =>
    (first | rw [c5b0] | (simp only [q09, q0a]; rw [c5b0]) | skip)
    have H' := aS H
    clear H
    obtain ⟨hczL_0, hczL_1, hczL_2, hczL_3, hczL_4, hczL_5, hfzL_0, hfzL_1, hfzL_2, hfzL_3, hfzL_4, hfzL_5⟩ := bk6 BK216.out
    go_wp2
    go_meet
    case rel => exact ⟨_, _, zi, H', ⟨by first | omega | exact Nat.le_refl _⟩, ⟨by (with_reducible repeat (first | refine kN ?_ _ | refine kD ?_ | refine kA ?_ _)); exact BK216.out⟩, ⟨by repeat (first | (with_reducible first | exact HB.out | apply bA | apply bN | apply bD | refine bS ?_ GE216.out) | exact HB.out)⟩⟩
   case p7 =>
    have H' := aS H
    clear H
    obtain ⟨hczL_0, hczL_1, hczL_2, hczL_3, hczL_4, hczL_5, hfzL_0, hfzL_1, hfzL_2, hfzL_3, hfzL_4, hfzL_5⟩ := bk6 BK216.out
    go_wp2
    go_meet
    case rel => exact ⟨_, _, zi, H', ⟨by first | omega | exact Nat.le_refl _⟩, ⟨by (with_reducible repeat (first | refine kN ?_ _ | refine kD ?_ | refine kA ?_ _)); exact BK216.out⟩, ⟨by repeat (first | (with_reducible first | exact HB.out | apply bA | apply bN | apply bD | refine bS ?_ GE216.out) | exact HB.out)⟩⟩
   case n7 =>
    replace H := iB H
    obtain ⟨t217, A9, H⟩ := H
    have H' := aS H
    clear H
    obtain ⟨hczL_0, hczL_1, hczL_2, hczL_3, hczL_4, hczL_5, hfzL_0, hfzL_1, hfzL_2, hfzL_3, hfzL_4, hfzL_5⟩ := bk6 BK216.out
    go_wp2_with (first | (go_at_call 135; (with_reducible refine (dom_bare.calls a0_0 a0_1 _ _ l0_2 a0_3 a0_4 _ _ l0_5 t217 _ ?side1 ?side2 ?side3 ?side4 A9.out).mono ?_); (case side1 => repeat (first | exact (Kd.C_below HR0_2.out HB.out) | (with_reducible refine cA ?_ _) | (with_reducible refine cN ?_ _) | (with_reducible refine cD ?_))); (case side2 => exact HC0_2.out); (case side3 => repeat (first | exact (Kd.C_below HR0_5.out HB.out) | (with_reducible refine cA ?_ _) | (with_reducible refine cN ?_ _) | (with_reducible refine cD ?_))); (case side4 => exact HC0_5.out); rintro e w11 ⟨rfl, hb⟩; replace BK216 := aS (q01 (g := gb216) (o := .cells #[.int .i64 a0_0, .string a0_1, .slice A0_2 l0_2.length c0_2, .string a0_3, .int .i64 a0_4, .slice A0_5 l0_5.length c0_5] 43 (0, 0)) (za BK216.out) hb); replace HB := aS (q02 (z6 HB.out GE216.out) hb); (try clear hb); (try clear hb2); (try clear hk); (try clear hi)))
    go_meet
    case rel => exact ⟨_, (!t217), zi, H', ⟨by first | omega | exact Nat.le_refl _⟩, ⟨by (with_reducible repeat (first | refine kN ?_ _ | refine kD ?_ | refine kA ?_ _)); exact BK216.out⟩, ⟨by repeat (first | (with_reducible first | exact HB.out | apply bA | apply bN | apply bD | refine bS ?_ GE216.out) | exact HB.out)⟩⟩
  case rest =>
   clear HC4
   obtain ⟨kq, x4_3, rfl, HA, HJ3, BK216, HB⟩ := hcut
   cases kq with
   | zero => exact absurd HA.out (by simp [dom_one.j0])
   | succ kj3 =>
    have H := HA.out
    clear HA
    simp only [dom_one.j0] at H
    refine iV H ?p12 ?n12 <;> clear H
    case' p12 => intro c12 H; subst c12
    case' n12 =>
     intro c12 H; subst c12
     obtain ⟨hczL_0, hczL_1, hczL_2, hczL_3, hczL_4, hczL_5, hfzL_0, hfzL_1, hfzL_2, hfzL_3, hfzL_4, hfzL_5⟩ := bk6 BK216.out
     refine iE H ?p13 ?n13 <;> clear H
    case' p13 => intro c13b0 c13b1 H; replace H := iB H; obtain ⟨t218, A14, H⟩ := H; refine iV H ?p15 ?n15 <;> clear H
    case' p15 => intro c15 H; subst c15
    case' n15 => intro c15 H; subst c15
    case' n13 => intro c13 c13b0 c13b1 H
    case p12 =>
     obtain rfl := Option.some.inj H
     go_wp2
     go_ret
     exact ⟨by first | rfl | (simp [q05, q04] <;> rfl) | (simp [*, q05, q04] <;> rfl), by repeat (first | (with_reducible first | exact HB.out | apply bA | apply bN | apply bD | refine bS ?_ GE216.out) | exact HB.out)⟩
    case p15 =>
     have H' := aS H
     clear H
     go_wp2_with (first | (go_at_call 136; (with_reducible refine (dom_Name.calls a0_1 true _ A14.out).mono ?_); rintro e w17 ⟨rfl, hb⟩; replace BK216 := aS (q01 (g := gb216) (o := .cells #[.int .i64 a0_0, .string a0_1, .slice A0_2 l0_2.length c0_2, .string a0_3, .int .i64 a0_4, .slice A0_5 l0_5.length c0_5] 43 (0, 0)) (za BK216.out) hb); replace HB := aS (q02 (z6 HB.out GE216.out) hb); (try clear hb); (try clear hb2); (try clear hk); (try clear hi)))
     go_meet
     case rel => exact ⟨_, H', ⟨by have := HJ3.out; first | omega | exact Nat.le_refl _⟩, ⟨by (with_reducible repeat (first | refine kN ?_ _ | refine kD ?_ | refine kA ?_ _)); exact BK216.out⟩, ⟨by repeat (first | (with_reducible first | exact HB.out | apply bA | apply bN | apply bD | refine bS ?_ GE216.out) | exact HB.out)⟩⟩
    case n15 =>
     obtain rfl := Option.some.inj H
     go_wp2_with (first | (go_at_call 136; (with_reducible refine (dom_Name.calls a0_1 false _ A14.out).mono ?_); rintro e w19 ⟨rfl, hb⟩; replace BK216 := aS (q01 (g := gb216) (o := .cells #[.int .i64 a0_0, .string a0_1, .slice A0_2 l0_2.length c0_2, .string a0_3, .int .i64 a0_4, .slice A0_5 l0_5.length c0_5] 43 (0, 0)) (za BK216.out) hb); replace HB := aS (q02 (z6 HB.out GE216.out) hb); (try clear hb); (try clear hb2); (try clear hk); (try clear hi)))
     go_ret
     exact ⟨by first | rfl | (simp [q05, q04] <;> rfl) | (simp [*, q05, q04] <;> rfl), by repeat (first | (with_reducible first | exact HB.out | apply bA | apply bN | apply bD | refine bS ?_ GE216.out) | exact HB.out)⟩
    case n13 =>
     have H' := aS H
     clear H
     go_wp2
     go_meet
     case rel => exact ⟨_, H', ⟨by have := HJ3.out; first | omega | exact Nat.le_refl _⟩, ⟨by (with_reducible repeat (first | refine kN ?_ _ | refine kD ?_ | refine kA ?_ _)); exact BK216.out⟩, ⟨by repeat (first | (with_reducible first | exact HB.out | apply bA | apply bN | apply bD | refine bS ?_ GE216.out) | exact HB.out)⟩⟩
 case rest =>
  clear HC2
  obtain ⟨kq, HA, HJ1, BK216, HB⟩ := hcut
  cases kq with
  | zero => exact absurd HA.out (by simp [dom_one.j1])
  | succ kj1 =>
   have H := HA.out
   clear HA
   simp only [dom_one.j1] at H
   replace H := iB H
   obtain ⟨t219, A21, H⟩ := H
   obtain ⟨hczL_0, hczL_1, hczL_2, hczL_3, hczL_4, hczL_5, hfzL_0, hfzL_1, hfzL_2, hfzL_3, hfzL_4, hfzL_5⟩ := bk6 BK216.out
   refine iE H ?p22 ?n22 <;> clear H
   case' p22 => intro c22b0 c22b1 H; refine iTN (m := 400) (n := a0_3.size) H rfl rfl ?p23 ?n23 <;> clear H
   case' p23 => intro c23b0 c23b1 H
   case' n23 => intro c23b0 c23b1 H; refine iTN (m := 400) (n := a0_1.size) H rfl rfl ?p27 ?n27 <;> clear H
   case' p27 => intro c27b0 c27b1 H
   case' n27 => intro c27b0 c27b1 H
   case' n22 => intro c22 c22b0 c22b1 H
   case p23 =>
    obtain rfl := Option.some.inj H
    go_wp2_with (first | ((with_reducible refine q08 (f := 137) rfl ?_); refine q0n (some 30) rfl rfl Tryd.func137 (by kernel_rfl) rfl #[.slice A0_2 l0_2.length c0_2] rfl zc ?_; (with_reducible refine (dom_attrs.calls kj1 _ _ l0_2 t219 _ ?side1 ?side2 A21.out).mono ?_); (case side1 => repeat (first | exact (Kd.C_below HR0_2.out HB.out) | (with_reducible refine cA ?_ _) | (with_reducible refine cN ?_ _) | (with_reducible refine cD ?_))); (case side2 => exact HC0_2.out); rintro e w25 ⟨rfl, hb⟩; refine ⟨_, rfl, ?_⟩; replace BK216 := aS (q01 (g := gb216) (o := .cells #[.int .i64 a0_0, .string a0_1, .slice A0_2 l0_2.length c0_2, .string a0_3, .int .i64 a0_4, .slice A0_5 l0_5.length c0_5] 43 (0, 0)) (za BK216.out) hb); replace HB := aS (q02 (z6 HB.out GE216.out) hb); (try clear hb); (try clear hb2); (try clear hk); (try clear hi); obtain ⟨hczL_0, hczL_1, hczL_2, hczL_3, hczL_4, hczL_5, hfzL_0, hfzL_1, hfzL_2, hfzL_3, hfzL_4, hfzL_5⟩ := bk6 BK216.out))
    go_ret
    exact ⟨by first | rfl | (simp [q05, q04] <;> rfl) | (simp [*, q05, q04] <;> rfl), by repeat (first | (with_reducible first | exact HB.out | apply bA | apply bN | apply bD | refine bS ?_ GE216.out) | exact HB.out)⟩
   case p27 =>
    obtain rfl := Option.some.inj H
    go_wp2_with (first | ((with_reducible refine q08 (f := 137) rfl ?_); refine q0n (some 30) rfl rfl Tryd.func137 (by kernel_rfl) rfl #[.slice A0_2 l0_2.length c0_2] rfl zc ?_; (with_reducible refine (dom_attrs.calls kj1 _ _ l0_2 t219 _ ?side1 ?side2 A21.out).mono ?_); (case side1 => repeat (first | exact (Kd.C_below HR0_2.out HB.out) | (with_reducible refine cA ?_ _) | (with_reducible refine cN ?_ _) | (with_reducible refine cD ?_))); (case side2 => exact HC0_2.out); rintro e w29 ⟨rfl, hb⟩; refine ⟨_, rfl, ?_⟩; replace BK216 := aS (q01 (g := gb216) (o := .cells #[.int .i64 a0_0, .string a0_1, .slice A0_2 l0_2.length c0_2, .string a0_3, .int .i64 a0_4, .slice A0_5 l0_5.length c0_5] 43 (0, 0)) (za BK216.out) hb); replace HB := aS (q02 (z6 HB.out GE216.out) hb); (try clear hb); (try clear hb2); (try clear hk); (try clear hi); obtain ⟨hczL_0, hczL_1, hczL_2, hczL_3, hczL_4, hczL_5, hfzL_0, hfzL_1, hfzL_2, hfzL_3, hfzL_4, hfzL_5⟩ := bk6 BK216.out))
    go_ret
    exact ⟨by first | rfl | (simp [q05, q04] <;> rfl) | (simp [*, q05, q04] <;> rfl), by repeat (first | (with_reducible first | exact HB.out | apply bA | apply bN | apply bD | refine bS ?_ GE216.out) | exact HB.out)⟩
   case n27 =>
    obtain rfl := Option.some.inj H
    go_wp2_with (first | ((with_reducible refine q08 (f := 137) rfl ?_); refine q0n (some 30) rfl rfl Tryd.func137 (by kernel_rfl) rfl #[.slice A0_2 l0_2.length c0_2] rfl zc ?_; (with_reducible refine (dom_attrs.calls kj1 _ _ l0_2 t219 _ ?side1 ?side2 A21.out).mono ?_); (case side1 => repeat (first | exact (Kd.C_below HR0_2.out HB.out) | (with_reducible refine cA ?_ _) | (with_reducible refine cN ?_ _) | (with_reducible refine cD ?_))); (case side2 => exact HC0_2.out); rintro e w32 ⟨rfl, hb⟩; refine ⟨_, rfl, ?_⟩; replace BK216 := aS (q01 (g := gb216) (o := .cells #[.int .i64 a0_0, .string a0_1, .slice A0_2 l0_2.length c0_2, .string a0_3, .int .i64 a0_4, .slice A0_5 l0_5.length c0_5] 43 (0, 0)) (za BK216.out) hb); replace HB := aS (q02 (z6 HB.out GE216.out) hb); (try clear hb); (try clear hb2); (try clear hk); (try clear hi); obtain ⟨hczL_0, hczL_1, hczL_2, hczL_3, hczL_4, hczL_5, hfzL_0, hfzL_1, hfzL_2, hfzL_3, hfzL_4, hfzL_5⟩ := bk6 BK216.out))
    go_ret
    exact ⟨by first | rfl | (simp [q05, q04] <;> rfl) | (simp [*, q05, q04] <;> rfl), by repeat (first | (with_reducible first | exact HB.out | apply bA | apply bN | apply bD | refine bS ?_ GE216.out) | exact HB.out)⟩
   case n22 =>
    obtain rfl := Option.some.inj H
    go_wp2_with (first | ((with_reducible refine q08 (f := 137) rfl ?_); refine q0n (some 30) rfl rfl Tryd.func137 (by kernel_rfl) rfl #[.slice A0_2 l0_2.length c0_2] rfl zc ?_; (with_reducible refine (dom_attrs.calls kj1 _ _ l0_2 t219 _ ?side1 ?side2 A21.out).mono ?_); (case side1 => repeat (first | exact (Kd.C_below HR0_2.out HB.out) | (with_reducible refine cA ?_ _) | (with_reducible refine cN ?_ _) | (with_reducible refine cD ?_))); (case side2 => exact HC0_2.out); rintro e w35 ⟨rfl, hb⟩; refine ⟨_, rfl, ?_⟩; replace BK216 := aS (q01 (g := gb216) (o := .cells #[.int .i64 a0_0, .string a0_1, .slice A0_2 l0_2.length c0_2, .string a0_3, .int .i64 a0_4, .slice A0_5 l0_5.length c0_5] 43 (0, 0)) (za BK216.out) hb); replace HB := aS (q02 (z6 HB.out GE216.out) hb); (try clear hb); (try clear hb2); (try clear hk); (try clear hi)))
    go_ret
    exact ⟨by first | rfl | (simp [q05, q04] <;> rfl) | (simp [*, q05, q04] <;> rfl), by repeat (first | (with_reducible first | exact HB.out | apply bA | apply bN | apply bD | refine bS ?_ GE216.out) | exact HB.out)⟩
mutual
def dom_kids.l0 : Nat → List Bool → List (S43) → Int → Int → List (S43) → Bool → Option (Int)
 | 0, _, _, _, _, _, _ => none
 | k + 1, x3, x15, x16, x17, x221000, x221001 => if x17 < x16 then (if 0 ≤ x17 then (if x17 < (x15.length : Int) then (dom_kids.l1 k x3 x17 x15 x16 x17 ((q00 x15 x17).f5) (((q00 x15 x17).f5).length : Int) 0 x221000 x221001) else (none)) else (none)) else (dom_kids.l2 k x3 x221000 (x221000.length : Int) 0 x221000 x221001)
def dom_kids.l1 : Nat → List Bool → Int → List (S43) → Int → Int → List Int → Int → Int → List (S43) → Bool → Option (Int)
 | 0, _, _, _, _, _, _, _, _, _, _ => none
 | k + 1, x3, x4, x15, x16, x17, x23, x24, x25, x221000, x221001 => if x25 < x24 then (if 0 ≤ x25 then (if x25 < (x23.length : Int) then (if (rd x23 x25) < 0 then (dom_kids.j2 k x3 x4 (rd x23 x25) x15 x16 x17 x23 x24 x25 true x221000 x221001) else (if (rd x23 x25) ≥ (x3.length : Int) then (dom_kids.j2 k x3 x4 (rd x23 x25) x15 x16 x17 x23 x24 x25 true x221000 x221001) else (if 0 ≤ (rd x23 x25) then (if (rd x23 x25) < (x221000.length : Int) then (if ((q00 x221000 (rd x23 x25)).f4) = x4 then (if (rd x23 x25) < (x3.length : Int) then (dom_kids.j2 k x3 x4 (rd x23 x25) x15 x16 x17 x23 x24 x25 (rdOf false x3 (rd x23 x25)) x221000 x221001) else (none)) else (dom_kids.j2 k x3 x4 (rd x23 x25) x15 x16 x17 x23 x24 x25 true x221000 x221001)) else (none)) else (none)))) else (none)) else (none)) else (dom_kids.l0 k x3 x15 x16 (wrap64 (x17 + 1)) x221000 x221001)
def dom_kids.j2 : Nat → List Bool → Int → Int → List (S43) → Int → Int → List Int → Int → Int → Bool → List (S43) → Bool → Option (Int)
 | 0, _, _, _, _, _, _, _, _, _, _, _, _ => none
 | k + 1, x3, x4, x7, x15, x16, x17, x23, x24, x25, x29, x221000, x221001 => if x29 = true then (some 3) else (if x4 = 0 then (if 0 ≤ x7 then (if x7 < (x221000.length : Int) then (if ((q00 x221000 x7).f0) = 3 then (some 7) else (if x7 < (x3.length : Int) then (dom_kids.l1 k (x3.set (x7 : Int).toNat true) x4 x15 x16 x17 x23 x24 (wrap64 (x25 + 1)) x221000 x221001) else (none))) else (none)) else (none)) else (if 0 ≤ x7 then (if x7 < (x3.length : Int) then (dom_kids.l1 k (x3.set (x7 : Int).toNat true) x4 x15 x16 x17 x23 x24 (wrap64 (x25 + 1)) x221000 x221001) else (none)) else (none)))
def dom_kids.l2 : Nat → List Bool → List (S43) → Int → Int → List (S43) → Bool → Option (Int)
 | 0, _, _, _, _, _, _ => none
 | k + 1, x3, x72, x73, x74, x221000, x221001 => if x74 < x73 then (if 0 ≤ x74 then (if x74 < (x72.length : Int) then (if ((q00 x72 x74).f4) = (-1) then (dom_kids.l2 k x3 x72 x73 (wrap64 (x74 + 1)) x221000 x221001) else (if x74 < (x3.length : Int) then (if rdOf false x3 x74 = true then (dom_kids.l2 k x3 x72 x73 (wrap64 (x74 + 1)) x221000 x221001) else (some 3)) else (none))) else (none)) else (none)) else (if 0 < (x221000.length : Int) then (if ((q00 x221000 0).f4) = (-1) then (some 0) else (some 3)) else (none))
end
def dom_kids.f (k : Nat) (l0_0 : List (S43)) (a0_1 : Bool) : Option (Int) := if 0 ≤ (l0_0.length : Int) then (if ((l0_0.length : Int) : Int).toNat ≤ 281474976710656 then (dom_kids.l0 k (List.replicate ((l0_0.length : Int) : Int).toNat false) l0_0 (l0_0.length : Int) 0 l0_0 a0_1) else (none)) else (none)
theorem dom_kids.mono_l : ∀ k, (∀ y0 y1 y2 y3 y4 y5, LeO (dom_kids.l0 k y0 y1 y2 y3 y4 y5) (dom_kids.l0 (k + 1) y0 y1 y2 y3 y4 y5)) ∧ (∀ y0 y1 y2 y3 y4 y5 y6 y7 y8 y9, LeO (dom_kids.l1 k y0 y1 y2 y3 y4 y5 y6 y7 y8 y9) (dom_kids.l1 (k + 1) y0 y1 y2 y3 y4 y5 y6 y7 y8 y9)) ∧ (∀ y0 y1 y2 y3 y4 y5 y6 y7 y8 y9 y10 y11, LeO (dom_kids.j2 k y0 y1 y2 y3 y4 y5 y6 y7 y8 y9 y10 y11) (dom_kids.j2 (k + 1) y0 y1 y2 y3 y4 y5 y6 y7 y8 y9 y10 y11)) ∧ (∀ y0 y1 y2 y3 y4 y5, LeO (dom_kids.l2 k y0 y1 y2 y3 y4 y5) (dom_kids.l2 (k + 1) y0 y1 y2 y3 y4 y5))
 | 0 => ⟨fun _ _ _ _ _ _ r h => by simp [dom_kids.l0] at h, fun _ _ _ _ _ _ _ _ _ _ r h => by simp [dom_kids.l1] at h, fun _ _ _ _ _ _ _ _ _ _ _ _ r h => by simp [dom_kids.j2] at h, fun _ _ _ _ _ _ r h => by simp [dom_kids.l2] at h⟩
 | k + 1 => by
  obtain ⟨ih0, ih1, ih2, ih3⟩ := dom_kids.mono_l k
  refine ⟨?_, ?_, ?_, ?_⟩
  all_goals intros
  all_goals (first | unfold dom_kids.l0 | unfold dom_kids.l1 | unfold dom_kids.j2 | unfold dom_kids.l2)
  all_goals (repeat' first | with_reducible first | apply ih0 | apply ih1 | apply ih2 | apply ih3 | exact LeO.refl _ | exact LeO.none _ | refine LeO.ite ?_ ?_ | refine LeO.bind ?_ (fun _ => ?_) | (first | apply ih0 | apply ih1 | apply ih2 | apply ih3 | exact LeO.none _ | refine LeO.ite ?_ ?_ | refine LeO.bind ?_ (fun _ => ?_)))
theorem dom_kids.mono : ∀ a0 a1 k, LeO (dom_kids.f k a0 a1) (dom_kids.f (k + 1) a0 a1) := by
 intro a0 a1 k
 obtain ⟨ih0, ih1, ih2, ih3⟩ := dom_kids.mono_l k
 unfold dom_kids.f
 repeat' first | with_reducible first | apply ih0 | apply ih1 | apply ih2 | apply ih3 | exact LeO.refl _ | exact LeO.none _ | refine LeO.ite ?_ ?_ | refine LeO.bind ?_ (fun _ => ?_) | (first | apply ih0 | apply ih1 | apply ih2 | apply ih3 | exact LeO.none _ | refine LeO.ite ?_ ?_ | refine LeO.bind ?_ (fun _ => ?_))
set_option maxHeartbeats 8000000 in
set_option maxRecDepth 100000 in
theorem dom_kids.calls (k : Nat) (A0_0 : Option Addr) (c0_0 : Nat) (l0_0 : List (S43)) (a0_1 : Bool) (r : Int) (w : World) (hr0_0 : Kd.C k43 w A0_0 l0_0.length l0_0) (hc0_0 : l0_0.length ≤ c0_0) (h : dom_kids.f k l0_0 a0_1 = some r) :
 Calls Tryd.prog 101 #[.agg #[.slice A0_0 l0_0.length c0_0, .bool a0_1]] w fun e w' => e = .returned (.int .i64 r) ∧ Below w.heap.size w w' := by
 have hu24 := Tryd.underlying24
 have hu43 := Tryd.underlying43
 have HR0_0 := aS hr0_0
 have HC0_0 := aS hc0_0
 clear hr0_0 hc0_0
 have HB := aS (Below.refl w.heap.size w)
 have H := h; clear h; unfold dom_kids.f at H
 refine iGp H ?_; clear H; intro c2 H
 have c2b0 := eq_true c2
 have c2b1 : decide (0 ≤ (l0_0.length : Int)) = true := decide_eq_true c2
 clear c2
 refine iGp H ?_; clear H; intro c3 H
 have c3b0 := eq_true c3
 have c3b1 : decide (((l0_0.length : Int) : Int).toNat ≤ 281474976710656) = true := decide_eq_true c3
 clear c3
 obtain ⟨y221, hy221⟩ : ∃ y_ : List Bool, y_ = (List.replicate ((l0_0.length : Int) : Int).toNat false) := ⟨_, rfl⟩
 replace H : (dom_kids.l0 k y221 l0_0 (l0_0.length : Int) 0 l0_0 a0_1) = some r := by first | (rw [hy221]; with_reducible exact H) | (have H2_ := (Option.bind_some _ _).symm.trans H; rw [hy221]; with_reducible exact H2_) | (have H2_ := (Option.bind_some _ _).symm.trans H; with_reducible exact H2_) | with_reducible exact H | (rw [hy221]; exact H) | exact H
 have Ny221 := aS hy221
 clear hy221
 have H' := aS H
 clear H
 go_enter Tryd.func101, Tryd.ntmps101
 go_wp2_with (first | ((with_reducible refine q07 (N := 1) rfl ?_); (try (refine q0z (by rfl) ?_; dsimp only)); refine box0 rfl (N := 1) rfl (cs := #[.slice A0_0 l0_0.length c0_0, .bool a0_1]) (t := 24) zh (z7 HB.out) ?_; clear HB; intro gb220 w4 BK220 GW220 HB; have GE220 := GW220; obtain ⟨hczL_0, hczL_1, hfzL_0, hfzL_1⟩ := bk2 BK220.out) | ((with_reducible refine q07 (N := 13) rfl ?_); (try (refine q0z (by rfl) ?_; dsimp only)); refine Kd.R_make Kd.bool _ 4 rfl (N := 13) rfl 186 _ _ rfl (l0_0.length : Int) rfl rfl Tryd.underlying186 (.bool false) 1 info4 rfl (by decide) (by omega) false (ok := fun _ => True) (okp := fun _ => True) rfl (fun _ hk => hk) trivial (od zb) (Nat.le_trans (Nat.mul_le_mul_right _ (od zb : (l0_0.length : Int).toNat ≤ 281474976710656)) (by omega)) (Below.refl _ _) (Nat.le_refl _) ?_; intro v222 w6 ho7 hb hg_ hnew_; clear hg_ hnew_; (first | rw [← Ny221.out] at ho7 | (simp only [Int.reduceToNat] at ho7; rw [← Ny221.out] at ho7)); have HO223 := aS (Kd.R_lower ho7 (q06 (z6 HB.out GE220.out))); replace BK220 := aS (q01 (g := gb220) (o := .cells #[.slice A0_0 l0_0.length c0_0, .bool a0_1] 24 (0, 0)) (za BK220.out) hb); replace HB := aS (q02 (z6 HB.out GE220.out) hb); clear hb ho7; obtain ⟨hczL_0, hczL_1, hfzL_0, hfzL_1⟩ := bk2 BK220.out))
 go_loopg [17] k (fun kq v17 w' => ∃ (x3_1 : List Bool) (x17_1 : Int), v17 = .int .i64 x17_1 ∧ Aside0 (dom_kids.l0 kq x3_1 l0_0 (l0_0.length : Int) x17_1 l0_0 a0_1 = some r) ∧ Aside0 (kq ≤ k) ∧ Aside0 (Kd.R Kd.bool 4 w' w.heap.size (fun _ => True) v222 x3_1) ∧ Aside0 (w'.heap[gb220]? = some (.cells #[(.slice A0_0 l0_0.length c0_0), .bool a0_1] 24 (0, 0))) ∧ Aside0 (Below w.heap.size w w'))
 case atStart => exact ⟨(y221), (0), zi, H', ⟨Nat.le_refl _⟩, ⟨by (with_reducible repeat (first | apply rA | apply rN | apply rD)); exact HO223.out⟩, ⟨by (with_reducible repeat (first | refine kN ?_ _ | refine kD ?_ | refine kA ?_ _)); exact BK220.out⟩, ⟨by repeat (first | (with_reducible first | exact HB.out | apply bA | apply bN | apply bD | refine bS ?_ GE220.out) | exact HB.out)⟩⟩
 case round =>
  clear H'
  obtain ⟨x3_1, x17_1, rfl, HA, HK1, HO_3, BK220, HB⟩ := hrel
  cases gk with
  | zero => exact absurd HA.out (by simp [dom_kids.l0])
  | succ k1 =>
   have H := HA.out
   clear HA
   simp only [dom_kids.l0] at H
   refine iT H ?p9 ?n9 <;> clear H
   case' p9 => intro c9b0 H; refine iLp H ?_; clear H; intro c10b0 H; refine iTp H ?_; clear H; intro c11b0 H
   case' n9 => intro c9b0 H
   case p9 =>
    have H' := aS H
    clear H
    obtain ⟨ad224, A224_2, c224_2, A224_5, c224_5, e224, hx224_0, hx224_1, hx224_2, hx224_3, hx224_4, hx224_5, HC224_2, HR224_2, HC224_5, HR224_5, p224, q224⟩ := q0o HB.out HR0_0.out x17_1 zb zb
    cases e224
    go_wp2_with (first | ((with_reducible refine q07 (N := 5) rfl ?_); (try (refine q0z (by rfl) ?_; dsimp only)); refine q0j ?hg (N := 5) ?hd (cs := #[.int .i64 0, .string (⟨#[]⟩ : ByteArray), .slice none 0 0, .string (⟨#[]⟩ : ByteArray), .int .i64 0, .slice none 0 0]) (t := 43) ?hr ?_; (case hd => rfl); (case hg => rfl); (case hr => first | (go_simp; done) | (go_simp; rfl)); intro gb225 hg w12 hbox hb; have n0_ := aS (Kd.R_below (zf HO_3.out) hb); have n1_ := aS (q01 (g := gb220) (o := .cells #[.slice (some ad224) l0_0.length c0_0, .bool a0_1] 24 (0, 0)) (za BK220.out) hb); have n2_ := aS (q02 (z6 HB.out GE220.out) hb); have n3_ := aS (hbox); have n4_ := aS ((by rw [hg]; exact (q06 (z6 HB.out GE220.out)) : w.heap.size ≤ gb225)); have n5_ := aS ((by rw [hg]; exact (q06 (z6 HB.out GE220.out)) : w.heap.size ≤ gb225)); have n6_ := aS ((by rw [hg]; exact Nat.ne_of_lt (q0i (g := gb220) (o := .cells #[.slice (some ad224) l0_0.length c0_0, .bool a0_1] 24 (0, 0)) (za BK220.out)) : gb220 ≠ gb225)); have n7_ := aS ((by rw [hg]; exact Nat.ne_of_gt (q0i (g := gb220) (o := .cells #[.slice (some ad224) l0_0.length c0_0, .bool a0_1] 24 (0, 0)) (za BK220.out)) : gb225 ≠ gb220)); clear HO_3; clear BK220; clear HB; have HO_3 := n0_; have BK220 := n1_; have HB := n2_; have BK225 := n3_; have GW225 := n4_; have GE225 := n5_; have NB220_225 := n6_; have NB225_220 := n7_; clear n0_ n1_ n2_ n3_ n4_ n5_ n6_ n7_; clear hb hbox hg; have hnb13 := NB225_220.out; have hnc13 := NB220_225.out; obtain ⟨hczL_0, hczL_1, hczL_2, hczL_3, hczL_4, hczL_5, hfzL_0, hfzL_1, hfzL_2, hfzL_3, hfzL_4, hfzL_5⟩ := bk6 BK225.out))
    go_loopg [25] k1 (fun kq v25 w' => ∃ (x3_2 : List Bool) (x25_2 : Int), v25 = .int .i64 x25_2 ∧ Aside0 (dom_kids.l1 kq x3_2 x17_1 l0_0 (l0_0.length : Int) x17_1 ((q00 l0_0 x17_1).f5) (((q00 l0_0 x17_1).f5).length : Int) x25_2 l0_0 a0_1 = some r) ∧ Aside0 (kq ≤ k1) ∧ Aside0 (Kd.R Kd.bool 4 w' w.heap.size (fun _ => True) v222 x3_2) ∧ Aside0 (w'.heap[gb220]? = some (.cells #[(.slice (some ad224) l0_0.length c0_0), .bool a0_1] 24 (0, 0))) ∧ Aside0 (w'.heap[gb225]? = some (.cells #[.int .i64 ((q00 l0_0 x17_1).f0), .string ((q00 l0_0 x17_1).f1), (.slice A224_2 ((q00 l0_0 x17_1).f2).length c224_2), .string ((q00 l0_0 x17_1).f3), .int .i64 ((q00 l0_0 x17_1).f4), (.slice A224_5 ((q00 l0_0 x17_1).f5).length c224_5)] 43 (0, 0))) ∧ Aside0 (Below w.heap.size w w'))
    case atStart => exact ⟨(x3_1), (0), zi, H', ⟨Nat.le_refl _⟩, ⟨by (with_reducible repeat (first | apply rA | apply rN | apply rD)); exact Kd.R_mono (Kd.R_far (p := ⟨gb225, 5, none⟩) (Kd.R_far (p := ⟨gb225, 4, none⟩) (Kd.R_far (p := ⟨gb225, 3, none⟩) (Kd.R_far (p := ⟨gb225, 2, none⟩) (Kd.R_far (p := ⟨gb225, 1, none⟩) (Kd.R_far (p := ⟨gb225, 0, none⟩) (Kd.R_types HO_3.out BK225.out (by decide)) (fun _ hk => hk.2) (.int .i64 ((q00 l0_0 x17_1).f0))) (fun _ hk => hk.2) (.string ((q00 l0_0 x17_1).f1))) (fun _ hk => hk.2) (.slice A224_2 ((q00 l0_0 x17_1).f2).length c224_2)) (fun _ hk => hk.2) (.string ((q00 l0_0 x17_1).f3))) (fun _ hk => hk.2) (.int .i64 ((q00 l0_0 x17_1).f4))) (fun _ hk => hk.2) (.slice A224_5 ((q00 l0_0 x17_1).f5).length c224_5)) (fun _ hk => trivial)⟩, ⟨by (with_reducible repeat (first | refine kN ?_ _ | refine kD ?_ | refine kA ?_ _)); refine q0d ?_ NB220_225.out _; (with_reducible repeat (first | refine kN ?_ _ | refine kD ?_ | refine kA ?_ _)); refine q0d ?_ NB220_225.out _; (with_reducible repeat (first | refine kN ?_ _ | refine kD ?_ | refine kA ?_ _)); refine q0d ?_ NB220_225.out _; (with_reducible repeat (first | refine kN ?_ _ | refine kD ?_ | refine kA ?_ _)); refine q0d ?_ NB220_225.out _; (with_reducible repeat (first | refine kN ?_ _ | refine kD ?_ | refine kA ?_ _)); refine q0d ?_ NB220_225.out _; (with_reducible repeat (first | refine kN ?_ _ | refine kD ?_ | refine kA ?_ _)); refine q0d ?_ NB220_225.out _; (with_reducible repeat (first | refine kN ?_ _ | refine kD ?_ | refine kA ?_ _)); exact BK220.out⟩, ⟨by (with_reducible repeat (first | refine kN ?_ _ | refine kD ?_ | refine kA ?_ _)); refine q0h (cs := #[.int .i64 ((q00 l0_0 x17_1).f0), .string ((q00 l0_0 x17_1).f1), .slice A224_2 ((q00 l0_0 x17_1).f2).length c224_2, .string ((q00 l0_0 x17_1).f3), .int .i64 ((q00 l0_0 x17_1).f4), .slice none 0 0]) ?_ 5 _ rfl; (with_reducible repeat (first | refine kN ?_ _ | refine kD ?_ | refine kA ?_ _)); refine q0h (cs := #[.int .i64 ((q00 l0_0 x17_1).f0), .string ((q00 l0_0 x17_1).f1), .slice A224_2 ((q00 l0_0 x17_1).f2).length c224_2, .string ((q00 l0_0 x17_1).f3), .int .i64 0, .slice none 0 0]) ?_ 4 _ rfl; (with_reducible repeat (first | refine kN ?_ _ | refine kD ?_ | refine kA ?_ _)); refine q0h (cs := #[.int .i64 ((q00 l0_0 x17_1).f0), .string ((q00 l0_0 x17_1).f1), .slice A224_2 ((q00 l0_0 x17_1).f2).length c224_2, .string (⟨#[]⟩ : ByteArray), .int .i64 0, .slice none 0 0]) ?_ 3 _ rfl; (with_reducible repeat (first | refine kN ?_ _ | refine kD ?_ | refine kA ?_ _)); refine q0h (cs := #[.int .i64 ((q00 l0_0 x17_1).f0), .string ((q00 l0_0 x17_1).f1), .slice none 0 0, .string (⟨#[]⟩ : ByteArray), .int .i64 0, .slice none 0 0]) ?_ 2 _ rfl; (with_reducible repeat (first | refine kN ?_ _ | refine kD ?_ | refine kA ?_ _)); refine q0h (cs := #[.int .i64 ((q00 l0_0 x17_1).f0), .string (⟨#[]⟩ : ByteArray), .slice none 0 0, .string (⟨#[]⟩ : ByteArray), .int .i64 0, .slice none 0 0]) ?_ 1 _ rfl; (with_reducible repeat (first | refine kN ?_ _ | refine kD ?_ | refine kA ?_ _)); refine q0h (cs := #[.int .i64 0, .string (⟨#[]⟩ : ByteArray), .slice none 0 0, .string (⟨#[]⟩ : ByteArray), .int .i64 0, .slice none 0 0]) ?_ 0 _ rfl; (with_reducible repeat (first | refine kN ?_ _ | refine kD ?_ | refine kA ?_ _)); exact BK225.out⟩, ⟨by repeat (first | (with_reducible first | exact HB.out | apply bA | apply bN | apply bD | refine bS ?_ GE220.out | refine bS ?_ GE225.out) | exact HB.out)⟩⟩
    case round =>
     clear H'
     obtain ⟨x3_2, x25_2, rfl, HA, HK2, HO_3, BK220, BK225, HB⟩ := hrel
     cases gk with
     | zero => exact absurd HA.out (by simp [dom_kids.l1])
     | succ k2 =>
      have H := HA.out
      clear HA
      simp only [dom_kids.l1] at H
      refine iT H ?p15 ?n15 <;> clear H
      case' p15 => intro c15b0 H; refine iLp H ?_; clear H; intro c16b0 H; refine iTp H ?_; clear H; intro c17b0 H
      case' n15 => intro c15b0 H
      case p15 =>
       have HC18 := aS H
       clear H
       obtain ⟨ad226, e226, hx226_0, p226, q226⟩ := atIB HB.out HR224_5.out x25_2 zb zb
       cases e226
       go_upto_region 8 with (fail)
       go_cut [29] (fun v29 wc => ∃ (kq : Nat) (x29_17 : Bool), v29 = .bool x29_17 ∧ Aside0 (dom_kids.j2 kq x3_2 x17_1 (rd ((q00 l0_0 x17_1).f5) x25_2) l0_0 (l0_0.length : Int) x17_1 ((q00 l0_0 x17_1).f5) (((q00 l0_0 x17_1).f5).length : Int) x25_2 x29_17 l0_0 a0_1 = some r) ∧ Aside0 (kq ≤ k2) ∧ Aside0 (Kd.R Kd.bool 4 wc w.heap.size (fun _ => True) v222 x3_2) ∧ Aside0 (wc.heap[gb220]? = some (.cells #[(.slice (some ad224) l0_0.length c0_0), .bool a0_1] 24 (0, 0))) ∧ Aside0 (wc.heap[gb225]? = some (.cells #[.int .i64 ((q00 l0_0 x17_1).f0), .string ((q00 l0_0 x17_1).f1), (.slice A224_2 ((q00 l0_0 x17_1).f2).length c224_2), .string ((q00 l0_0 x17_1).f3), .int .i64 ((q00 l0_0 x17_1).f4), (.slice (some ad226) ((q00 l0_0 x17_1).f5).length c224_5)] 43 (0, 0))) ∧ Aside0 (Below w.heap.size w wc))
       case first =>
        have H := HC18.out
        clear HC18
        refine iT H ?p19 ?n19 <;> clear H
        case' p19 => intro c19b0 H
        case' n19 => intro c19b0 H; (first | rw [c19b0] | (simp only [q09, q0a]; rw [c19b0]) | skip); refine iL H ?p20 ?n20 <;> clear H
        case' p20 => intro c20b0 H
        case' n20 => intro c20b0 H; refine iLp H ?_; clear H; intro c22b0 H; refine iTp H ?_; clear H; intro c23b0 H; refine iE H ?p24 ?n24 <;> clear H
        case' p24 => intro c24b0 c24b1 H; refine iTp H ?_; clear H; intro c25b0 H
        case' n24 => intro c24 c24b0 c24b1 H
        case p19 =>
         (first | rw [c19b0] | (simp only [q09, q0a]; rw [c19b0]) | skip)
         have H' := aS H
         clear H
         go_wp2
         go_meet
         case rel => exact ⟨_, _, zi, H', ⟨by have := HK1.out; have := HK2.out; first | omega | exact Nat.le_refl _⟩, ⟨by (with_reducible repeat (first | apply rA | apply rN | apply rD)); exact HO_3.out⟩, ⟨by (with_reducible repeat (first | refine kN ?_ _ | refine kD ?_ | refine kA ?_ _)); exact BK220.out⟩, ⟨by (with_reducible repeat (first | refine kN ?_ _ | refine kD ?_ | refine kA ?_ _)); exact BK225.out⟩, ⟨by repeat (first | (with_reducible first | exact HB.out | apply bA | apply bN | apply bD | refine bS ?_ GE220.out | refine bS ?_ GE225.out) | exact HB.out)⟩⟩
        case p20 =>
         have H' := aS H
         clear H
         obtain ⟨Ao21, co21, eo21⟩ := Kd.R_slice HO_3.out
         subst eo21
         go_wp2
         go_meet
         case rel => exact ⟨_, _, zi, H', ⟨by have := HK1.out; have := HK2.out; first | omega | exact Nat.le_refl _⟩, ⟨by (with_reducible repeat (first | apply rA | apply rN | apply rD)); exact HO_3.out⟩, ⟨by (with_reducible repeat (first | refine kN ?_ _ | refine kD ?_ | refine kA ?_ _)); exact BK220.out⟩, ⟨by (with_reducible repeat (first | refine kN ?_ _ | refine kD ?_ | refine kA ?_ _)); exact BK225.out⟩, ⟨by repeat (first | (with_reducible first | exact HB.out | apply bA | apply bN | apply bD | refine bS ?_ GE220.out | refine bS ?_ GE225.out) | exact HB.out)⟩⟩
        case p24 =>
         have H' := aS H
         clear H
         obtain ⟨Ao26, co26, eo26⟩ := Kd.R_slice HO_3.out
         subst eo26
         have hnb27 := NB220_225.out
         have hnc27 := NB225_220.out
         obtain ⟨hczL_0, hczL_1, hfzL_0, hfzL_1⟩ := bk2 BK220.out
         obtain ⟨ad227, A227_2, c227_2, A227_5, c227_5, e227, hx227_0, hx227_1, hx227_2, hx227_3, hx227_4, hx227_5, HC227_2, HR227_2, HC227_5, HR227_5, p227, q227⟩ := q0o HB.out HR0_0.out (rd ((q00 l0_0 x17_1).f5) x25_2) zb zb
         obtain rfl : ad224 = ad227 := (by injection e227)
         obtain ⟨ad228, e228, hx228_0, p228, q228⟩ := atOA (Kd.R_reads' HO_3.out).2.2 (rd ((q00 l0_0 x17_1).f5) x25_2) zb zb
         cases e228
         go_wp2
         go_meet
         case rel => exact ⟨_, (rdOf false x3_2 (rd ((q00 l0_0 x17_1).f5) x25_2)), zi, H', ⟨by have := HK1.out; have := HK2.out; first | omega | exact Nat.le_refl _⟩, ⟨by (with_reducible repeat (first | apply rA | apply rN | apply rD)); exact HO_3.out⟩, ⟨by (with_reducible repeat (first | refine kN ?_ _ | refine kD ?_ | refine kA ?_ _)); exact BK220.out⟩, ⟨by (with_reducible repeat (first | refine kN ?_ _ | refine kD ?_ | refine kA ?_ _)); exact BK225.out⟩, ⟨by repeat (first | (with_reducible first | exact HB.out | apply bA | apply bN | apply bD | refine bS ?_ GE220.out | refine bS ?_ GE225.out) | exact HB.out)⟩⟩
        case n24 =>
         have H' := aS H
         clear H
         obtain ⟨Ao29, co29, eo29⟩ := Kd.R_slice HO_3.out
         subst eo29
         have hnb30 := NB220_225.out
         have hnc30 := NB225_220.out
         obtain ⟨hczL_0, hczL_1, hfzL_0, hfzL_1⟩ := bk2 BK220.out
         obtain ⟨ad227, A227_2, c227_2, A227_5, c227_5, e227, hx227_0, hx227_1, hx227_2, hx227_3, hx227_4, hx227_5, HC227_2, HR227_2, HC227_5, HR227_5, p227, q227⟩ := q0o HB.out HR0_0.out (rd ((q00 l0_0 x17_1).f5) x25_2) zb zb
         obtain rfl : ad224 = ad227 := (by injection e227)
         go_wp2
         go_meet
         case rel => exact ⟨_, _, zi, H', ⟨by have := HK1.out; have := HK2.out; first | omega | exact Nat.le_refl _⟩, ⟨by (with_reducible repeat (first | apply rA | apply rN | apply rD)); exact HO_3.out⟩, ⟨by (with_reducible repeat (first | refine kN ?_ _ | refine kD ?_ | refine kA ?_ _)); exact BK220.out⟩, ⟨by (with_reducible repeat (first | refine kN ?_ _ | refine kD ?_ | refine kA ?_ _)); exact BK225.out⟩, ⟨by repeat (first | (with_reducible first | exact HB.out | apply bA | apply bN | apply bD | refine bS ?_ GE220.out | refine bS ?_ GE225.out) | exact HB.out)⟩⟩
       case rest =>
        clear HC18
        obtain ⟨kq, x29_17, rfl, HA, HJ17, HO_3, BK220, BK225, HB⟩ := hcut
        cases kq with
        | zero => exact absurd HA.out (by simp [dom_kids.j2])
        | succ kj17 =>
         have H := HA.out
         clear HA
         simp only [dom_kids.j2] at H
         refine iV H ?p32 ?n32 <;> clear H
         case' p32 => intro c32 H; subst c32
         case' n32 => intro c32 H; subst c32; refine iE H ?p33 ?n33 <;> clear H
         case' p33 => intro c33b0 c33b1 H; refine iLp H ?_; clear H; intro c34b0 H; refine iTp H ?_; clear H; intro c35b0 H; refine iE H ?p36 ?n36 <;> clear H
         case' p36 => intro c36b0 c36b1 H
         case' n36 => intro c36 c36b0 c36b1 H; refine iTp H ?_; clear H; intro c39b0 H
         case' n33 => intro c33 c33b0 c33b1 H; refine iLp H ?_; clear H; intro c45b0 H; refine iTp H ?_; clear H; intro c46b0 H
         case p32 =>
          obtain rfl := Option.some.inj H
          go_wp2
          go_ret
          exact ⟨by first | rfl | (simp [q05, q04] <;> rfl) | (simp [*, q05, q04] <;> rfl), by repeat (first | (with_reducible first | exact HB.out | apply bA | apply bN | apply bD | refine bS ?_ GE220.out | refine bS ?_ GE225.out) | exact HB.out)⟩
         case p36 =>
          obtain rfl := Option.some.inj H
          have hnb37 := NB220_225.out
          have hnc37 := NB225_220.out
          obtain ⟨hczL_0, hczL_1, hfzL_0, hfzL_1⟩ := bk2 BK220.out
          obtain ⟨ad229, A229_2, c229_2, A229_5, c229_5, e229, hx229_0, hx229_1, hx229_2, hx229_3, hx229_4, hx229_5, HC229_2, HR229_2, HC229_5, HR229_5, p229, q229⟩ := q0o HB.out HR0_0.out (rd ((q00 l0_0 x17_1).f5) x25_2) zb zb
          obtain rfl : ad224 = ad229 := (by injection e229)
          go_wp2
          go_ret
          exact ⟨by first | rfl | (simp [q05, q04] <;> rfl) | (simp [*, q05, q04] <;> rfl), by repeat (first | (with_reducible first | exact HB.out | apply bA | apply bN | apply bD | refine bS ?_ GE220.out | refine bS ?_ GE225.out) | exact HB.out)⟩
         case n36 =>
          obtain ⟨y230, hy230⟩ : ∃ y_ : List Bool, y_ = (x3_2.set ((rd ((q00 l0_0 x17_1).f5) x25_2) : Int).toNat true) := ⟨_, rfl⟩
          replace H : (dom_kids.l1 kj17 y230 x17_1 l0_0 (l0_0.length : Int) x17_1 ((q00 l0_0 x17_1).f5) (((q00 l0_0 x17_1).f5).length : Int) (wrap64 (x25_2 + 1)) l0_0 a0_1) = some r := by first | (rw [hy230]; with_reducible exact H) | (have H2_ := (Option.bind_some _ _).symm.trans H; rw [hy230]; with_reducible exact H2_) | (have H2_ := (Option.bind_some _ _).symm.trans H; with_reducible exact H2_) | with_reducible exact H | (rw [hy230]; exact H) | exact H
          have Ny230 := aS hy230
          clear hy230
          have H' := aS H
          clear H
          have hnb41 := NB220_225.out
          have hnc41 := NB225_220.out
          obtain ⟨hczL_0, hczL_1, hfzL_0, hfzL_1⟩ := bk2 BK220.out
          obtain ⟨ad229, A229_2, c229_2, A229_5, c229_5, e229, hx229_0, hx229_1, hx229_2, hx229_3, hx229_4, hx229_5, HC229_2, HR229_2, HC229_5, HR229_5, p229, q229⟩ := q0o HB.out HR0_0.out (rd ((q00 l0_0 x17_1).f5) x25_2) zb zb
          obtain rfl : ad224 = ad229 := (by injection e229)
          have p40 : 0 ≤ ((rd ((q00 l0_0 x17_1).f5) x25_2) : Int) := od zb
          have q40 : ((rd ((q00 l0_0 x17_1).f5) x25_2) : Int) < ((x3_2.length : Int) : Int) := od zb
          obtain ⟨go40, co40, eo40, gb40, gl40, cl40, HG40⟩ := Kd.R_form HO_3.out (by omega)
          (first | cases eo40 | (injection eo40 with ea_ en_ ec_; (first | subst ea_ | (injection ea_ with ea_; subst ea_)); subst ec_; clear en_))
          have GB40 := aS gb40
          have GG40 := aS HG40
          clear gb40 gl40 HG40
          obtain ⟨hx40_0, hf40_0⟩ := Kd.R_celln false HO_3.out ((rd ((q00 l0_0 x17_1).f5) x25_2) : Int) p40 q40
          replace p40 := eq_true p40
          replace q40 := eq_true q40
          have HP43 := Kd.R_putg HO_3.out ((rd ((q00 l0_0 x17_1).f5) x25_2) : Int) true
          go_wp2_with (first | ((with_reducible refine gate_store (t := 4) (p := 68) rfl ?_); refine store_event (t := 4) (p := 68) (v := ?vo_w44) (w1 := (wc.setCell ⟨go40, ((rd ((q00 l0_0 x17_1).f5) x25_2) : Int).toNat, none⟩ (.bool true))) ?hg ?ho ?hn ?hr ?_; (case ho => rfl); (case hg => rfl); (case hn => rfl); (case hr => first | (go_simp; done) | (go_simp; rfl)); intro w44 hw; have hg : wc.grownBy w44 (some go40) := (by rw [hw]; exact HP43.2); have hp_ : Kd.R Kd.bool 4 w44 w.heap.size (fun _ => True) (.slice (some ⟨go40, 0, none⟩) x3_2.length co40) y230 := (by rw [hw, Ny230.out]; exact HP43.1); clear HP43; have n0_ := aS (hp_); have n1_ := aS (q0q (g := gb220) (o := .cells #[.slice (some ad224) l0_0.length c0_0, .bool a0_1] 24 (0, 0)) (za BK220.out) hg (Kd.R_ne HO_3.out BK220.out (by decide))); have n2_ := aS (q0q (g := gb225) (o := .cells #[.int .i64 ((q00 l0_0 x17_1).f0), .string ((q00 l0_0 x17_1).f1), .slice A224_2 ((q00 l0_0 x17_1).f2).length c224_2, .string ((q00 l0_0 x17_1).f3), .int .i64 ((q00 l0_0 x17_1).f4), .slice (some ad226) ((q00 l0_0 x17_1).f5).length c224_5] 43 (0, 0)) (za BK225.out) hg (Kd.R_ne HO_3.out BK225.out (by decide))); have n3_ := aS ((by rw [hw]; exact below_set (HB.out) GB40.out : Below w.heap.size w w44)); clear HO_3; clear BK220; clear BK225; clear HB; have HO_3 := n0_; have BK220 := n1_; have BK225 := n2_; have HB := n3_; clear n0_ n1_ n2_ n3_; clear hg hw hp_))
          go_roundg kj17
          case measure => have := HK1.out; have := HK2.out; have := HJ17.out; omega
          case rel => exact ⟨(y230), (wrap64 (x25_2 + 1)), zi, H', ⟨by have := HK1.out; have := HK2.out; have := HJ17.out; omega⟩, ⟨by (with_reducible repeat (first | apply rA | apply rN | apply rD)); exact HO_3.out⟩, ⟨by (with_reducible repeat (first | refine kN ?_ _ | refine kD ?_ | refine kA ?_ _)); exact BK220.out⟩, ⟨by (with_reducible repeat (first | refine kN ?_ _ | refine kD ?_ | refine kA ?_ _)); exact BK225.out⟩, ⟨by repeat (first | (with_reducible first | exact HB.out | apply bA | apply bN | apply bD | refine bS ?_ GE220.out | refine bS ?_ GE225.out) | exact HB.out)⟩⟩
         case n33 =>
          obtain ⟨y231, hy231⟩ : ∃ y_ : List Bool, y_ = (x3_2.set ((rd ((q00 l0_0 x17_1).f5) x25_2) : Int).toNat true) := ⟨_, rfl⟩
          replace H : (dom_kids.l1 kj17 y231 x17_1 l0_0 (l0_0.length : Int) x17_1 ((q00 l0_0 x17_1).f5) (((q00 l0_0 x17_1).f5).length : Int) (wrap64 (x25_2 + 1)) l0_0 a0_1) = some r := by first | (rw [hy231]; with_reducible exact H) | (have H2_ := (Option.bind_some _ _).symm.trans H; rw [hy231]; with_reducible exact H2_) | (have H2_ := (Option.bind_some _ _).symm.trans H; with_reducible exact H2_) | with_reducible exact H | (rw [hy231]; exact H) | exact H
          have Ny231 := aS hy231
          clear hy231
          have H' := aS H
          clear H
          have p47 : 0 ≤ ((rd ((q00 l0_0 x17_1).f5) x25_2) : Int) := od zb
          have q47 : ((rd ((q00 l0_0 x17_1).f5) x25_2) : Int) < ((x3_2.length : Int) : Int) := od zb
          obtain ⟨go47, co47, eo47, gb47, gl47, cl47, HG47⟩ := Kd.R_form HO_3.out (by omega)
          (first | cases eo47 | (injection eo47 with ea_ en_ ec_; (first | subst ea_ | (injection ea_ with ea_; subst ea_)); subst ec_; clear en_))
          have GB47 := aS gb47
          have GG47 := aS HG47
          clear gb47 gl47 HG47
          obtain ⟨hx47_0, hf47_0⟩ := Kd.R_celln false HO_3.out ((rd ((q00 l0_0 x17_1).f5) x25_2) : Int) p47 q47
          replace p47 := eq_true p47
          replace q47 := eq_true q47
          have HP48 := Kd.R_putg HO_3.out ((rd ((q00 l0_0 x17_1).f5) x25_2) : Int) true
          go_wp2_with (first | ((with_reducible refine gate_store (t := 4) (p := 68) rfl ?_); refine store_event (t := 4) (p := 68) (v := ?vo_w49) (w1 := (wc.setCell ⟨go47, ((rd ((q00 l0_0 x17_1).f5) x25_2) : Int).toNat, none⟩ (.bool true))) ?hg ?ho ?hn ?hr ?_; (case ho => rfl); (case hg => rfl); (case hn => rfl); (case hr => first | (go_simp; done) | (go_simp; rfl)); intro w49 hw; have hg : wc.grownBy w49 (some go47) := (by rw [hw]; exact HP48.2); have hp_ : Kd.R Kd.bool 4 w49 w.heap.size (fun _ => True) (.slice (some ⟨go47, 0, none⟩) x3_2.length co47) y231 := (by rw [hw, Ny231.out]; exact HP48.1); clear HP48; have n0_ := aS (hp_); have n1_ := aS (q0q (g := gb220) (o := .cells #[.slice (some ad224) l0_0.length c0_0, .bool a0_1] 24 (0, 0)) (za BK220.out) hg (Kd.R_ne HO_3.out BK220.out (by decide))); have n2_ := aS (q0q (g := gb225) (o := .cells #[.int .i64 ((q00 l0_0 x17_1).f0), .string ((q00 l0_0 x17_1).f1), .slice A224_2 ((q00 l0_0 x17_1).f2).length c224_2, .string ((q00 l0_0 x17_1).f3), .int .i64 ((q00 l0_0 x17_1).f4), .slice (some ad226) ((q00 l0_0 x17_1).f5).length c224_5] 43 (0, 0)) (za BK225.out) hg (Kd.R_ne HO_3.out BK225.out (by decide))); have n3_ := aS ((by rw [hw]; exact below_set (HB.out) GB47.out : Below w.heap.size w w49)); clear HO_3; clear BK220; clear BK225; clear HB; have HO_3 := n0_; have BK220 := n1_; have BK225 := n2_; have HB := n3_; clear n0_ n1_ n2_ n3_; clear hg hw hp_))
          go_roundg kj17
          case measure => have := HK1.out; have := HK2.out; have := HJ17.out; omega
          case rel => exact ⟨(y231), (wrap64 (x25_2 + 1)), zi, H', ⟨by have := HK1.out; have := HK2.out; have := HJ17.out; omega⟩, ⟨by (with_reducible repeat (first | apply rA | apply rN | apply rD)); exact HO_3.out⟩, ⟨by (with_reducible repeat (first | refine kN ?_ _ | refine kD ?_ | refine kA ?_ _)); exact BK220.out⟩, ⟨by (with_reducible repeat (first | refine kN ?_ _ | refine kD ?_ | refine kA ?_ _)); exact BK225.out⟩, ⟨by repeat (first | (with_reducible first | exact HB.out | apply bA | apply bN | apply bD | refine bS ?_ GE220.out | refine bS ?_ GE225.out) | exact HB.out)⟩⟩
      case n15 =>
       have H' := aS H
       clear H
       go_wp2
       go_roundg k2
       case measure => have := HK1.out; have := HK2.out; omega
       case rel => exact ⟨(x3_2), (wrap64 (x17_1 + 1)), zi, H', ⟨by have := HK1.out; have := HK2.out; omega⟩, ⟨by (with_reducible repeat (first | apply rA | apply rN | apply rD)); exact HO_3.out⟩, ⟨by (with_reducible repeat (first | refine kN ?_ _ | refine kD ?_ | refine kA ?_ _)); exact BK220.out⟩, ⟨by repeat (first | (with_reducible first | exact HB.out | apply bA | apply bN | apply bD | refine bS ?_ GE220.out | refine bS ?_ GE225.out) | exact HB.out)⟩⟩
   case n9 =>
    have H' := aS H
    clear H
    obtain ⟨hczL_0, hczL_1, hfzL_0, hfzL_1⟩ := bk2 BK220.out
    go_wp2
    go_loopg [74] k1 (fun kq v74 w' => ∃ (x74_2 : Int), v74 = .int .i64 x74_2 ∧ Aside0 (dom_kids.l2 kq x3_1 l0_0 (l0_0.length : Int) x74_2 l0_0 a0_1 = some r) ∧ Aside0 (kq ≤ k1) ∧ Aside0 (Kd.R Kd.bool 4 w' w.heap.size (fun _ => True) v222 x3_1) ∧ Aside0 (w'.heap[gb220]? = some (.cells #[(.slice A0_0 l0_0.length c0_0), .bool a0_1] 24 (0, 0))) ∧ Aside0 (Below w.heap.size w w'))
    case atStart => exact ⟨(0), zi, H', ⟨Nat.le_refl _⟩, ⟨by (with_reducible repeat (first | apply rA | apply rN | apply rD)); exact HO_3.out⟩, ⟨by (with_reducible repeat (first | refine kN ?_ _ | refine kD ?_ | refine kA ?_ _)); exact BK220.out⟩, ⟨by repeat (first | (with_reducible first | exact HB.out | apply bA | apply bN | apply bD | refine bS ?_ GE220.out) | exact HB.out)⟩⟩
    case round =>
     clear H'
     obtain ⟨x74_2, rfl, HA, HK2, HO_3, BK220, HB⟩ := hrel
     cases gk with
     | zero => exact absurd HA.out (by simp [dom_kids.l2])
     | succ k2 =>
      have H := HA.out
      clear HA
      simp only [dom_kids.l2] at H
      refine iT H ?p51 ?n51 <;> clear H
      case' p51 => intro c51b0 H; refine iLp H ?_; clear H; intro c52b0 H; refine iTp H ?_; clear H; intro c53b0 H; refine iE H ?p54 ?n54 <;> clear H
      case' p54 => intro c54b0 c54b1 H
      case' n54 =>
       intro c54 c54b0 c54b1 H
       refine iTp H ?_; clear H; intro c58b0 H
       obtain ⟨bq59, hbq59⟩ : ∃ b_ : Bool, b_ = (rdOf false x3_1 x74_2) := ⟨_, rfl⟩
       replace H : (if bq59 = true then (dom_kids.l2 k2 x3_1 l0_0 (l0_0.length : Int) (wrap64 (x74_2 + 1)) l0_0 a0_1) else (some 3)) = some r := by rw [← hbq59] at H; exact H
       have Nbq59 := aS hbq59
       clear hbq59
       obtain ⟨ad232, A232_2, c232_2, A232_5, c232_5, e232, hx232_0, hx232_1, hx232_2, hx232_3, hx232_4, hx232_5, HC232_2, HR232_2, HC232_5, HR232_5, p232, q232⟩ := q0o HB.out HR0_0.out x74_2 zb zb
       cases e232
       refine iV H ?p60 ?n60 <;> clear H
      case' p60 => intro c60 H; subst c60
      case' n60 => intro c60 H; subst c60
      case' n51 =>
       intro c51b0 H
       obtain ⟨hczL_0, hczL_1, hfzL_0, hfzL_1⟩ := bk2 BK220.out
       refine iTNp (m := 0) (n := l0_0.length) H rfl rfl ?_; clear H; intro c69b0 c69b1 H
       have p235 : 0 ≤ (0 : Int) := (by omega)
       have q235 : 0 < (l0_0.length : Int) := od zb
       obtain ⟨ad235, A235_2, c235_2, A235_5, c235_5, e235, hx235_0, hx235_1, hx235_2, hx235_3, hx235_4, hx235_5, hl235_2, hi235_2, hl235_5, hi235_5⟩ := at_T43 HR0_0.out 0 p235 q235
       cases e235
       refine iE H ?p70 ?n70 <;> clear H
      case' p70 => intro c70b0 c70b1 H
      case' n70 => intro c70 c70b0 c70b1 H
      case p54 =>
       have H' := aS H
       clear H
       obtain ⟨ad232, A232_2, c232_2, A232_5, c232_5, e232, hx232_0, hx232_1, hx232_2, hx232_3, hx232_4, hx232_5, HC232_2, HR232_2, HC232_5, HR232_5, p232, q232⟩ := q0o HB.out HR0_0.out x74_2 zb zb
       cases e232
       go_wp2_with (first | ((with_reducible refine q07 (N := 9) rfl ?_); (try (refine q0z (by rfl) ?_; dsimp only)); refine q0j ?hg (N := 9) ?hd (cs := #[.int .i64 0, .string (⟨#[]⟩ : ByteArray), .slice none 0 0, .string (⟨#[]⟩ : ByteArray), .int .i64 0, .slice none 0 0]) (t := 43) ?hr ?_; (case hd => rfl); (case hg => rfl); (case hr => first | (go_simp; done) | (go_simp; rfl)); intro gb233 hg w55 hbox hb; have n0_ := aS (Kd.R_below (zf HO_3.out) hb); have n1_ := aS (q01 (g := gb220) (o := .cells #[.slice (some ad232) l0_0.length c0_0, .bool a0_1] 24 (0, 0)) (za BK220.out) hb); have n2_ := aS (q02 (z6 HB.out GE220.out) hb); have n3_ := aS (hbox); have n4_ := aS ((by rw [hg]; exact (q06 (z6 HB.out GE220.out)) : w.heap.size ≤ gb233)); have n5_ := aS ((by rw [hg]; exact (q06 (z6 HB.out GE220.out)) : w.heap.size ≤ gb233)); have n6_ := aS ((by rw [hg]; exact Nat.ne_of_lt (q0i (g := gb220) (o := .cells #[.slice (some ad232) l0_0.length c0_0, .bool a0_1] 24 (0, 0)) (za BK220.out)) : gb220 ≠ gb233)); have n7_ := aS ((by rw [hg]; exact Nat.ne_of_gt (q0i (g := gb220) (o := .cells #[.slice (some ad232) l0_0.length c0_0, .bool a0_1] 24 (0, 0)) (za BK220.out)) : gb233 ≠ gb220)); clear HO_3; clear BK220; clear HB; have HO_3 := n0_; have BK220 := n1_; have HB := n2_; have BK233 := n3_; have GW233 := n4_; have GE233 := n5_; have NB220_233 := n6_; have NB233_220 := n7_; clear n0_ n1_ n2_ n3_ n4_ n5_ n6_ n7_; clear hb hbox hg; have hnb56 := NB233_220.out; have hnc56 := NB220_233.out; obtain ⟨hczL_0, hczL_1, hczL_2, hczL_3, hczL_4, hczL_5, hfzL_0, hfzL_1, hfzL_2, hfzL_3, hfzL_4, hfzL_5⟩ := bk6 BK233.out))
       go_roundg k2
       case measure => have := HK1.out; have := HK2.out; omega
       case rel => exact ⟨(wrap64 (x74_2 + 1)), zi, H', ⟨by have := HK1.out; have := HK2.out; omega⟩, ⟨by (with_reducible repeat (first | apply rA | apply rN | apply rD)); exact Kd.R_mono (Kd.R_far (p := ⟨gb233, 5, none⟩) (Kd.R_far (p := ⟨gb233, 4, none⟩) (Kd.R_far (p := ⟨gb233, 3, none⟩) (Kd.R_far (p := ⟨gb233, 2, none⟩) (Kd.R_far (p := ⟨gb233, 1, none⟩) (Kd.R_far (p := ⟨gb233, 0, none⟩) (Kd.R_types HO_3.out BK233.out (by decide)) (fun _ hk => hk.2) (.int .i64 ((q00 l0_0 x74_2).f0))) (fun _ hk => hk.2) (.string ((q00 l0_0 x74_2).f1))) (fun _ hk => hk.2) (.slice A232_2 ((q00 l0_0 x74_2).f2).length c232_2)) (fun _ hk => hk.2) (.string ((q00 l0_0 x74_2).f3))) (fun _ hk => hk.2) (.int .i64 ((q00 l0_0 x74_2).f4))) (fun _ hk => hk.2) (.slice A232_5 ((q00 l0_0 x74_2).f5).length c232_5)) (fun _ hk => trivial)⟩, ⟨by (with_reducible repeat (first | refine kN ?_ _ | refine kD ?_ | refine kA ?_ _)); refine q0d ?_ NB220_233.out _; (with_reducible repeat (first | refine kN ?_ _ | refine kD ?_ | refine kA ?_ _)); refine q0d ?_ NB220_233.out _; (with_reducible repeat (first | refine kN ?_ _ | refine kD ?_ | refine kA ?_ _)); refine q0d ?_ NB220_233.out _; (with_reducible repeat (first | refine kN ?_ _ | refine kD ?_ | refine kA ?_ _)); refine q0d ?_ NB220_233.out _; (with_reducible repeat (first | refine kN ?_ _ | refine kD ?_ | refine kA ?_ _)); refine q0d ?_ NB220_233.out _; (with_reducible repeat (first | refine kN ?_ _ | refine kD ?_ | refine kA ?_ _)); refine q0d ?_ NB220_233.out _; (with_reducible repeat (first | refine kN ?_ _ | refine kD ?_ | refine kA ?_ _)); exact BK220.out⟩, ⟨by repeat (first | (with_reducible first | exact HB.out | apply bA | apply bN | apply bD | refine bS ?_ GE220.out | refine bS ?_ GE233.out) | exact HB.out)⟩⟩
      case p60 =>
       have H' := aS H
       clear H
       go_wp2_with (first | ((with_reducible refine q07 (N := 9) rfl ?_); (try (refine q0z (by rfl) ?_; dsimp only)); refine q0j ?hg (N := 9) ?hd (cs := #[.int .i64 0, .string (⟨#[]⟩ : ByteArray), .slice none 0 0, .string (⟨#[]⟩ : ByteArray), .int .i64 0, .slice none 0 0]) (t := 43) ?hr ?_; (case hd => rfl); (case hg => rfl); (case hr => first | (go_simp; done) | (go_simp; rfl)); intro gb233 hg w61 hbox hb; have n0_ := aS (Kd.R_below (zf HO_3.out) hb); have n1_ := aS (q01 (g := gb220) (o := .cells #[.slice (some ad232) l0_0.length c0_0, .bool a0_1] 24 (0, 0)) (za BK220.out) hb); have n2_ := aS (q02 (z6 HB.out GE220.out) hb); have n3_ := aS (hbox); have n4_ := aS ((by rw [hg]; exact (q06 (z6 HB.out GE220.out)) : w.heap.size ≤ gb233)); have n5_ := aS ((by rw [hg]; exact (q06 (z6 HB.out GE220.out)) : w.heap.size ≤ gb233)); have n6_ := aS ((by rw [hg]; exact Nat.ne_of_lt (q0i (g := gb220) (o := .cells #[.slice (some ad232) l0_0.length c0_0, .bool a0_1] 24 (0, 0)) (za BK220.out)) : gb220 ≠ gb233)); have n7_ := aS ((by rw [hg]; exact Nat.ne_of_gt (q0i (g := gb220) (o := .cells #[.slice (some ad232) l0_0.length c0_0, .bool a0_1] 24 (0, 0)) (za BK220.out)) : gb233 ≠ gb220)); clear HO_3; clear BK220; clear HB; have HO_3 := n0_; have BK220 := n1_; have HB := n2_; have BK233 := n3_; have GW233 := n4_; have GE233 := n5_; have NB220_233 := n6_; have NB233_220 := n7_; clear n0_ n1_ n2_ n3_ n4_ n5_ n6_ n7_; clear hb hbox hg; have hnb62 := NB233_220.out; have hnc62 := NB220_233.out; obtain ⟨hczL_0, hczL_1, hczL_2, hczL_3, hczL_4, hczL_5, hfzL_0, hfzL_1, hfzL_2, hfzL_3, hfzL_4, hfzL_5⟩ := bk6 BK233.out; obtain ⟨Ao64, co64, eo64⟩ := Kd.R_slice HO_3.out; subst eo64; have p234 : 0 ≤ (x74_2 : Int) := od zb; have q234 : x74_2 < (x3_1.length : Int) := od zb; obtain ⟨ad234, e234, hx234_0⟩ := Kd.at_bool (Kd.R_reads' HO_3.out).2.2 x74_2 p234 q234; (try rw [← Nbq59.out] at hx234_0); cases e234; have hn234_0 : ad234.block ≠ gb233 := Kd.own_blk (Kd.R_ne HO_3.out BK233.out (by decide)); have hn234_1 : ad234.block ≠ gb233 := Kd.own_blk (Kd.R_ne HO_3.out BK233.out (by decide)); have hn234_2 : ad234.block ≠ gb233 := Kd.own_blk (Kd.R_ne HO_3.out BK233.out (by decide)); have hn234_3 : ad234.block ≠ gb233 := Kd.own_blk (Kd.R_ne HO_3.out BK233.out (by decide)); have hn234_4 : ad234.block ≠ gb233 := Kd.own_blk (Kd.R_ne HO_3.out BK233.out (by decide)); have hn234_5 : ad234.block ≠ gb233 := Kd.own_blk (Kd.R_ne HO_3.out BK233.out (by decide)); replace hx234_0 := (q1q (p := ⟨gb233, 0, none⟩) (by first | (rw [q0p]; exact hn234_0) | (show (Addr.add _ _).block ≠ _; rw [q0p]; exact hn234_0) | exact hn234_0) (.int .i64 ((q00 l0_0 x74_2).f0))).trans hx234_0; replace hx234_0 := (q1q (p := ⟨gb233, 1, none⟩) (by first | (rw [q0p]; exact hn234_1) | (show (Addr.add _ _).block ≠ _; rw [q0p]; exact hn234_1) | exact hn234_1) (.string ((q00 l0_0 x74_2).f1))).trans hx234_0; replace hx234_0 := (q1q (p := ⟨gb233, 2, none⟩) (by first | (rw [q0p]; exact hn234_2) | (show (Addr.add _ _).block ≠ _; rw [q0p]; exact hn234_2) | exact hn234_2) (.slice A232_2 ((q00 l0_0 x74_2).f2).length c232_2)).trans hx234_0; replace hx234_0 := (q1q (p := ⟨gb233, 3, none⟩) (by first | (rw [q0p]; exact hn234_3) | (show (Addr.add _ _).block ≠ _; rw [q0p]; exact hn234_3) | exact hn234_3) (.string ((q00 l0_0 x74_2).f3))).trans hx234_0; replace hx234_0 := (q1q (p := ⟨gb233, 4, none⟩) (by first | (rw [q0p]; exact hn234_4) | (show (Addr.add _ _).block ≠ _; rw [q0p]; exact hn234_4) | exact hn234_4) (.int .i64 ((q00 l0_0 x74_2).f4))).trans hx234_0; replace hx234_0 := (q1q (p := ⟨gb233, 5, none⟩) (by first | (rw [q0p]; exact hn234_5) | (show (Addr.add _ _).block ≠ _; rw [q0p]; exact hn234_5) | exact hn234_5) (.slice A232_5 ((q00 l0_0 x74_2).f5).length c232_5)).trans hx234_0; clear hn234_0; clear hn234_1; clear hn234_2; clear hn234_3; clear hn234_4; clear hn234_5; replace p234 := eq_true p234; replace q234 := eq_true q234))
       go_roundg k2
       case measure => have := HK1.out; have := HK2.out; omega
       case rel => exact ⟨(wrap64 (x74_2 + 1)), zi, H', ⟨by have := HK1.out; have := HK2.out; omega⟩, ⟨by (with_reducible repeat (first | apply rA | apply rN | apply rD)); exact Kd.R_mono (Kd.R_far (p := ⟨gb233, 5, none⟩) (Kd.R_far (p := ⟨gb233, 4, none⟩) (Kd.R_far (p := ⟨gb233, 3, none⟩) (Kd.R_far (p := ⟨gb233, 2, none⟩) (Kd.R_far (p := ⟨gb233, 1, none⟩) (Kd.R_far (p := ⟨gb233, 0, none⟩) (Kd.R_types HO_3.out BK233.out (by decide)) (fun _ hk => hk.2) (.int .i64 ((q00 l0_0 x74_2).f0))) (fun _ hk => hk.2) (.string ((q00 l0_0 x74_2).f1))) (fun _ hk => hk.2) (.slice A232_2 ((q00 l0_0 x74_2).f2).length c232_2)) (fun _ hk => hk.2) (.string ((q00 l0_0 x74_2).f3))) (fun _ hk => hk.2) (.int .i64 ((q00 l0_0 x74_2).f4))) (fun _ hk => hk.2) (.slice A232_5 ((q00 l0_0 x74_2).f5).length c232_5)) (fun _ hk => trivial)⟩, ⟨by (with_reducible repeat (first | refine kN ?_ _ | refine kD ?_ | refine kA ?_ _)); refine q0d ?_ NB220_233.out _; (with_reducible repeat (first | refine kN ?_ _ | refine kD ?_ | refine kA ?_ _)); refine q0d ?_ NB220_233.out _; (with_reducible repeat (first | refine kN ?_ _ | refine kD ?_ | refine kA ?_ _)); refine q0d ?_ NB220_233.out _; (with_reducible repeat (first | refine kN ?_ _ | refine kD ?_ | refine kA ?_ _)); refine q0d ?_ NB220_233.out _; (with_reducible repeat (first | refine kN ?_ _ | refine kD ?_ | refine kA ?_ _)); refine q0d ?_ NB220_233.out _; (with_reducible repeat (first | refine kN ?_ _ | refine kD ?_ | refine kA ?_ _)); refine q0d ?_ NB220_233.out _; (with_reducible repeat (first | refine kN ?_ _ | refine kD ?_ | refine kA ?_ _)); exact BK220.out⟩, ⟨by repeat (first | (with_reducible first | exact HB.out | apply bA | apply bN | apply bD | refine bS ?_ GE220.out | refine bS ?_ GE233.out) | exact HB.out)⟩⟩
      case n60 =>
       obtain rfl := Option.some.inj H
       go_wp2_with (first | ((with_reducible refine q07 (N := 9) rfl ?_); (try (refine q0z (by rfl) ?_; dsimp only)); refine q0j ?hg (N := 9) ?hd (cs := #[.int .i64 0, .string (⟨#[]⟩ : ByteArray), .slice none 0 0, .string (⟨#[]⟩ : ByteArray), .int .i64 0, .slice none 0 0]) (t := 43) ?hr ?_; (case hd => rfl); (case hg => rfl); (case hr => first | (go_simp; done) | (go_simp; rfl)); intro gb233 hg w65 hbox hb; have n0_ := aS (Kd.R_below (zf HO_3.out) hb); have n1_ := aS (q01 (g := gb220) (o := .cells #[.slice (some ad232) l0_0.length c0_0, .bool a0_1] 24 (0, 0)) (za BK220.out) hb); have n2_ := aS (q02 (z6 HB.out GE220.out) hb); have n3_ := aS (hbox); have n4_ := aS ((by rw [hg]; exact (q06 (z6 HB.out GE220.out)) : w.heap.size ≤ gb233)); have n5_ := aS ((by rw [hg]; exact (q06 (z6 HB.out GE220.out)) : w.heap.size ≤ gb233)); have n6_ := aS ((by rw [hg]; exact Nat.ne_of_lt (q0i (g := gb220) (o := .cells #[.slice (some ad232) l0_0.length c0_0, .bool a0_1] 24 (0, 0)) (za BK220.out)) : gb220 ≠ gb233)); have n7_ := aS ((by rw [hg]; exact Nat.ne_of_gt (q0i (g := gb220) (o := .cells #[.slice (some ad232) l0_0.length c0_0, .bool a0_1] 24 (0, 0)) (za BK220.out)) : gb233 ≠ gb220)); clear HO_3; clear BK220; clear HB; have HO_3 := n0_; have BK220 := n1_; have HB := n2_; have BK233 := n3_; have GW233 := n4_; have GE233 := n5_; have NB220_233 := n6_; have NB233_220 := n7_; clear n0_ n1_ n2_ n3_ n4_ n5_ n6_ n7_; clear hb hbox hg; have hnb66 := NB233_220.out; have hnc66 := NB220_233.out; obtain ⟨hczL_0, hczL_1, hczL_2, hczL_3, hczL_4, hczL_5, hfzL_0, hfzL_1, hfzL_2, hfzL_3, hfzL_4, hfzL_5⟩ := bk6 BK233.out; obtain ⟨Ao68, co68, eo68⟩ := Kd.R_slice HO_3.out; subst eo68; have p234 : 0 ≤ (x74_2 : Int) := od zb; have q234 : x74_2 < (x3_1.length : Int) := od zb; obtain ⟨ad234, e234, hx234_0⟩ := Kd.at_bool (Kd.R_reads' HO_3.out).2.2 x74_2 p234 q234; (try rw [← Nbq59.out] at hx234_0); cases e234; have hn234_0 : ad234.block ≠ gb233 := Kd.own_blk (Kd.R_ne HO_3.out BK233.out (by decide)); have hn234_1 : ad234.block ≠ gb233 := Kd.own_blk (Kd.R_ne HO_3.out BK233.out (by decide)); have hn234_2 : ad234.block ≠ gb233 := Kd.own_blk (Kd.R_ne HO_3.out BK233.out (by decide)); have hn234_3 : ad234.block ≠ gb233 := Kd.own_blk (Kd.R_ne HO_3.out BK233.out (by decide)); have hn234_4 : ad234.block ≠ gb233 := Kd.own_blk (Kd.R_ne HO_3.out BK233.out (by decide)); have hn234_5 : ad234.block ≠ gb233 := Kd.own_blk (Kd.R_ne HO_3.out BK233.out (by decide)); replace hx234_0 := (q1q (p := ⟨gb233, 0, none⟩) (by first | (rw [q0p]; exact hn234_0) | (show (Addr.add _ _).block ≠ _; rw [q0p]; exact hn234_0) | exact hn234_0) (.int .i64 ((q00 l0_0 x74_2).f0))).trans hx234_0; replace hx234_0 := (q1q (p := ⟨gb233, 1, none⟩) (by first | (rw [q0p]; exact hn234_1) | (show (Addr.add _ _).block ≠ _; rw [q0p]; exact hn234_1) | exact hn234_1) (.string ((q00 l0_0 x74_2).f1))).trans hx234_0; replace hx234_0 := (q1q (p := ⟨gb233, 2, none⟩) (by first | (rw [q0p]; exact hn234_2) | (show (Addr.add _ _).block ≠ _; rw [q0p]; exact hn234_2) | exact hn234_2) (.slice A232_2 ((q00 l0_0 x74_2).f2).length c232_2)).trans hx234_0; replace hx234_0 := (q1q (p := ⟨gb233, 3, none⟩) (by first | (rw [q0p]; exact hn234_3) | (show (Addr.add _ _).block ≠ _; rw [q0p]; exact hn234_3) | exact hn234_3) (.string ((q00 l0_0 x74_2).f3))).trans hx234_0; replace hx234_0 := (q1q (p := ⟨gb233, 4, none⟩) (by first | (rw [q0p]; exact hn234_4) | (show (Addr.add _ _).block ≠ _; rw [q0p]; exact hn234_4) | exact hn234_4) (.int .i64 ((q00 l0_0 x74_2).f4))).trans hx234_0; replace hx234_0 := (q1q (p := ⟨gb233, 5, none⟩) (by first | (rw [q0p]; exact hn234_5) | (show (Addr.add _ _).block ≠ _; rw [q0p]; exact hn234_5) | exact hn234_5) (.slice A232_5 ((q00 l0_0 x74_2).f5).length c232_5)).trans hx234_0; clear hn234_0; clear hn234_1; clear hn234_2; clear hn234_3; clear hn234_4; clear hn234_5; replace p234 := eq_true p234; replace q234 := eq_true q234))
       go_ret
       exact ⟨by first | rfl | (simp [q05, q04] <;> rfl) | (simp [*, q05, q04] <;> rfl), by repeat (first | (with_reducible first | exact HB.out | apply bA | apply bN | apply bD | refine bS ?_ GE220.out | refine bS ?_ GE233.out) | exact HB.out)⟩
      case p70|n70 =>
       obtain rfl := Option.some.inj H
       have qi235 : (0 < l0_0.length) = True := eq_true (by omega)
       (try rw [show ((0 : Int)).toNat = 0 from rfl] at hx235_0)
       (try rw [show 0 * 6 = 0 from rfl] at hx235_0)
       (try rw [Addr.add_zero'] at hx235_0)
       (try rw [show ((0 : Int)).toNat = 0 from rfl] at hx235_1)
       (try rw [show 0 * 6 = 0 from rfl] at hx235_1)
       (try rw [Addr.add_zero'] at hx235_1)
       (try rw [show ((0 : Int)).toNat = 0 from rfl] at hx235_2)
       (try rw [show 0 * 6 = 0 from rfl] at hx235_2)
       (try rw [Addr.add_zero'] at hx235_2)
       (try rw [show ((0 : Int)).toNat = 0 from rfl] at hx235_3)
       (try rw [show 0 * 6 = 0 from rfl] at hx235_3)
       (try rw [Addr.add_zero'] at hx235_3)
       (try rw [show ((0 : Int)).toNat = 0 from rfl] at hx235_4)
       (try rw [show 0 * 6 = 0 from rfl] at hx235_4)
       (try rw [Addr.add_zero'] at hx235_4)
       (try rw [show ((0 : Int)).toNat = 0 from rfl] at hx235_5)
       (try rw [show 0 * 6 = 0 from rfl] at hx235_5)
       (try rw [Addr.add_zero'] at hx235_5)
       replace hx235_0 := q0f HB.out hx235_0
       replace hx235_1 := q0f HB.out hx235_1
       replace hx235_2 := q0f HB.out hx235_2
       replace hx235_3 := q0f HB.out hx235_3
       replace hx235_4 := q0f HB.out hx235_4
       replace hx235_5 := q0f HB.out hx235_5
       have HR235_2 := aS hi235_2
       have HC235_2 := aS hl235_2
       clear hi235_2 hl235_2
       have HR235_5 := aS hi235_5
       have HC235_5 := aS hl235_5
       clear hi235_5 hl235_5
       replace p235 := eq_true p235
       replace q235 := eq_true q235
       go_wp2
       go_ret
       exact ⟨by first | rfl | (simp [q05, q04] <;> rfl) | (simp [*, q05, q04] <;> rfl), by repeat (first | (with_reducible first | exact HB.out | apply bA | apply bN | apply bD | refine bS ?_ GE220.out) | exact HB.out)⟩
end Go.Proofs.YthjnallbbhnndaaDoor.XSp
