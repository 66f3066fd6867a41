/- Written by this session's program (wip/xp) out of the translation as Lean prints it: for each Go function a Lean function and the proof that the code answers just so, on the conditions named in each statement. -/
import Derived.Test.YthjnallbbhnndaaDoorG4
namespace Go.Proofs.YthjnallbbhnndaaDoor.XSp
open Go.Proofs.YthjnallbbhnndaaDoor.Short Go.RowKit Go.Proofs.YthjnallbbhnndaaDoorW.PrintWords Go.Proofs.YthjnallbbhnndaaDoorW.PrintLast Go.Proofs.YthjnallbbhnndaaDoorW.PrintMore
attribute [local go_sem] q15 q13 q1d q1c q0w q0v q14 q12   -- for this text's walks alone
set_option linter.unusedVariables false
set_option linter.unusedSimpArgs false
def clerestoryref1_SpanText.l0 : Nat → List (S50) → Int → ByteArray → Int → List (S43) → Bool → Option (ByteArray)
 | 0, _, _, _, _, _, _ => none
 | k + 1, x5, x7, x8, x9, x366000, x366001 => if x9 < x7 then (if 0 ≤ x9 then (if x9 < (x5.length : Int) then (if 0 ≤ (wrap64 (x9 + 1)) then (if (wrap64 (x9 + 1)) < (x5.length : Int) then (if ((q08 x5 x9).f0) = ((q08 x5 (wrap64 (x9 + 1))).f0) then (if 0 ≤ ((q08 x5 x9).f0) then (if ((q08 x5 x9).f0) < (x366000.length : Int) then (if ((q00 x366000 ((q08 x5 x9).f0)).f0) = 3 then (if 0 ≤ ((q08 x5 x9).f1) then (if ((q08 x5 x9).f1) ≤ ((q08 x5 (wrap64 (x9 + 1))).f1) then (if ((q08 x5 (wrap64 (x9 + 1))).f1) ≤ (((q00 x366000 ((q08 x5 x9).f0)).f3).size : Int) then (if x8.size + (((q00 x366000 ((q08 x5 x9).f0)).f3).extract (((q08 x5 x9).f1) : Int).toNat (((q08 x5 (wrap64 (x9 + 1))).f1) : Int).toNat).size ≤ 9223372036854775807 then (clerestoryref1_SpanText.l0 k x5 x7 (x8 ++ (((q00 x366000 ((q08 x5 x9).f0)).f3).extract (((q08 x5 x9).f1) : Int).toNat (((q08 x5 (wrap64 (x9 + 1))).f1) : Int).toNat)) (wrap64 (x9 + 1)) x366000 x366001) else (none)) else (none)) else (none)) else (none)) else (clerestoryref1_SpanText.l0 k x5 x7 x8 (wrap64 (x9 + 1)) x366000 x366001)) else (none)) else (none)) else (clerestoryref1_SpanText.l0 k x5 x7 x8 (wrap64 (x9 + 1)) x366000 x366001)) else (none)) else (none)) else (none)) else (none)) else (some x8)
def clerestoryref1_SpanText.f (k : Nat) (l0_0 : List (S43)) (a0_1 : Bool) (a1_0 : Int) (a1_1 : Int) (a1_2 : Int) (a1_3 : Int) : Option (ByteArray) := (clerestoryref1_marks.f k l0_0 a0_1 0).bind fun t367 => ((clerestoryref1_markOf.f k l0_0 a0_1 a1_0 a1_1).bind fun t370 => ((clerestoryref1_markOf.f k l0_0 a0_1 a1_2 a1_3).bind fun t371 => (clerestoryref1_SpanText.l0 k t367 t371 (⟨#[]⟩ : ByteArray) t370 l0_0 a0_1)))
theorem clerestoryref1_SpanText.mono_l : ∀ k, (∀ y0 y1 y2 y3 y4 y5, LeO (clerestoryref1_SpanText.l0 k y0 y1 y2 y3 y4 y5) (clerestoryref1_SpanText.l0 (k + 1) y0 y1 y2 y3 y4 y5))
 | 0 => fun _ _ _ _ _ _ r h => by simp [clerestoryref1_SpanText.l0] at h
 | k + 1 => by
  have ih0 := clerestoryref1_SpanText.mono_l k
  ·intro y0 y1 y2 y3 y4 y5
   unfold clerestoryref1_SpanText.l0
   repeat' first
   | (with_reducible exact ih0 _ _ _ _ _ _)
   | (with_reducible exact clerestoryref1_markOf.mono _ _ _ _ _)
   | (with_reducible exact clerestoryref1_marks.mono _ _ _ _)
   | (with_reducible exact LeO.refl _)
   | (with_reducible exact LeO.none _)
   | (with_reducible refine LeO.ite ?_ ?_)
   | (with_reducible refine LeO.bind ?_ (fun _ => ?_))
   | exact ih0 _ _ _ _ _ _
   | exact clerestoryref1_markOf.mono _ _ _ _ _
   | exact clerestoryref1_marks.mono _ _ _ _
   | exact LeO.none _
   | refine LeO.ite ?_ ?_
   | refine LeO.bind ?_ (fun _ => ?_)
theorem clerestoryref1_SpanText.mono : ∀ a0 a1 a2 a3 a4 a5 k, LeO (clerestoryref1_SpanText.f k a0 a1 a2 a3 a4 a5) (clerestoryref1_SpanText.f (k + 1) a0 a1 a2 a3 a4 a5) := by
 intro a0 a1 a2 a3 a4 a5 k
 have ih0 := clerestoryref1_SpanText.mono_l k
 unfold clerestoryref1_SpanText.f
 repeat' first
  | (with_reducible exact ih0 _ _ _ _ _ _)
  | (with_reducible exact clerestoryref1_markOf.mono _ _ _ _ _)
  | (with_reducible exact clerestoryref1_marks.mono _ _ _ _)
  | (with_reducible exact LeO.refl _)
  | (with_reducible exact LeO.none _)
  | (with_reducible refine LeO.ite ?_ ?_)
  | (with_reducible refine LeO.bind ?_ (fun _ => ?_))
  | exact ih0 _ _ _ _ _ _
  | exact clerestoryref1_markOf.mono _ _ _ _ _
  | exact clerestoryref1_marks.mono _ _ _ _
  | exact LeO.none _
  | refine LeO.ite ?_ ?_
  | refine LeO.bind ?_ (fun _ => ?_)
def clerestoryref1_SpanText.T2 : Bool × List (List Nat × List Nat) := (true, [([], []), ([], []), ([1], [1]), ([0, 2], [0, 2]), ([], []), ([], []), ([5], [5]), ([4, 6, 3], [4, 6]), ([3, 7, 0, 1, 2, 3], [3]), ([7, 8, 0, 1, 2, 3, 4, 5, 6, 7, 8], [7])])
def clerestoryref1_SpanText.B2 : List Nat := [0, 0, 2, 7, 0, 0, 32, 127, 255, 511]
theorem clerestoryref1_SpanText.tab2 : rtab .any (opsOf Tryd.f40 2) = clerestoryref1_SpanText.T2 := by kernel_rfl
theorem clerestoryref1_SpanText.bits2 : q24 clerestoryref1_SpanText.T2.2 clerestoryref1_SpanText.B2 = true := by kernel_rfl
def clerestoryref1_SpanText.T7 : Bool × List (List Nat × List Nat) := (true, [([], []), ([], []), ([0, 1], [0, 1]), ([2], [2]), ([], []), ([], []), ([5], [5]), ([4, 6], [4, 6]), ([7], [7]), ([], []), ([], []), ([9, 3, 0, 1, 2, 3, 9, 10], [3, 9]), ([10, 8, 11, 0, 1, 2, 3, 4, 5, 6, 7, 8, 9, 10, 11], [8, 10])])
def clerestoryref1_SpanText.B7 : List Nat := [0, 0, 3, 7, 0, 0, 32, 112, 240, 0, 0, 1551, 4095]
theorem clerestoryref1_SpanText.tab7 : rtab .any (opsOf Tryd.f40 7) = clerestoryref1_SpanText.T7 := by kernel_rfl
theorem clerestoryref1_SpanText.bits7 : q24 clerestoryref1_SpanText.T7.2 clerestoryref1_SpanText.B7 = true := by kernel_rfl
def clerestoryref1_SpanText.T9 : Bool × List (List Nat × List Nat) := (true, [([], []), ([], []), ([1], [1]), ([], []), ([3], [3]), ([2, 4], [2, 4]), ([5], [5]), ([6], [6]), ([], []), ([8], [8]), ([], []), ([10], [10]), ([7, 9, 11], [7, 9, 11]), ([0, 12], [0, 12]), ([13, 0, 1, 2, 3, 4, 5, 6, 7, 8, 9, 10, 11, 12, 13], [0, 13])])
def clerestoryref1_SpanText.B9 : List Nat := [0, 0, 2, 0, 8, 30, 62, 126, 0, 256, 0, 1024, 4094, 8191, 16383]
theorem clerestoryref1_SpanText.tab9 : rtab .any (opsOf Tryd.f40 9) = clerestoryref1_SpanText.T9 := by kernel_rfl
theorem clerestoryref1_SpanText.bits9 : q24 clerestoryref1_SpanText.T9.2 clerestoryref1_SpanText.B9 = true := by kernel_rfl
set_option maxHeartbeats 8000000 in
set_option maxRecDepth 100000 in
theorem clerestoryref1_SpanText.calls (k : Nat) (A0_0 : Option Addr) (c0_0 : Nat) (l0_0 : List (S43)) (a0_1 : Bool) (a1_0 : Int) (a1_1 : Int) (a1_2 : Int) (a1_3 : Int) (r : ByteArray) (w : World) (hr0_0 : Kd.C k43 w A0_0 l0_0.length l0_0) (hc0_0 : l0_0.length ≤ c0_0) (h : clerestoryref1_SpanText.f k l0_0 a0_1 a1_0 a1_1 a1_2 a1_3 = some r) :
 Calls Tryd.prog 40 #[.agg #[.slice A0_0 l0_0.length c0_0, .bool a0_1], .agg #[.int .i64 a1_0, .int .i64 a1_1, .int .i64 a1_2, .int .i64 a1_3]] w fun e w' => e = .returned (.string r) ∧ Below w.heap.size w w' := by
 have hu24 := Tryd.underlying24
 have hu52 := Tryd.underlying52
 have hu50 := Tryd.underlying50
 have HR0_0 := aS hr0_0
 have HC0_0 := aS hc0_0
 clear hr0_0 hc0_0
 have HB := aS (Below.refl w.heap.size w)
 have H : ((clerestoryref1_marks.f k l0_0 a0_1 0).bind fun t367 => ((clerestoryref1_markOf.f k l0_0 a0_1 a1_0 a1_1).bind fun t370 => ((clerestoryref1_markOf.f k l0_0 a0_1 a1_2 a1_3).bind fun t371 => (clerestoryref1_SpanText.l0 k t367 t371 (⟨#[]⟩ : ByteArray) t370 l0_0 a0_1)))) = some r := h
 clear h
 replace H := Option.bind_eq_some_iff.mp H
 obtain ⟨t367, A30, H⟩ := H
 replace H : ((clerestoryref1_markOf.f k l0_0 a0_1 a1_0 a1_1).bind fun t370 => ((clerestoryref1_markOf.f k l0_0 a0_1 a1_2 a1_3).bind fun t371 => (clerestoryref1_SpanText.l0 k t367 t371 (⟨#[]⟩ : ByteArray) t370 l0_0 a0_1))) = some r := H
 have A3 := aS A30
 clear A30
 replace H := Option.bind_eq_some_iff.mp H
 obtain ⟨t370, A40, H⟩ := H
 replace H : ((clerestoryref1_markOf.f k l0_0 a0_1 a1_2 a1_3).bind fun t371 => (clerestoryref1_SpanText.l0 k t367 t371 (⟨#[]⟩ : ByteArray) t370 l0_0 a0_1)) = some r := H
 have A4 := aS A40
 clear A40
 replace H := Option.bind_eq_some_iff.mp H
 obtain ⟨t371, A50, H⟩ := H
 replace H : (clerestoryref1_SpanText.l0 k t367 t371 (⟨#[]⟩ : ByteArray) t370 l0_0 a0_1) = some r := H
 have A5 := aS A50
 clear A50
 have H' := aS H
 clear H
 go_enter Tryd.func40, Tryd.ntmps40
 try go_wp2_with (first | ((with_reducible refine q09 (N := 2) rfl ?_); refine q0k ?hg (N := 2) ?hd (cs := #[.slice A0_0 l0_0.length c0_0, .bool a0_1]) (t := 24) ?hr ?_; (case hd => rfl); (case hg => rfl); (case hr => first | (go_simp; done) | (go_simp; rfl)); intro gb365 hg w6 hbox hb; have n0_ := aS (q02 (z7 HB.out) hb); have n1_ := aS (hbox); have n2_ := aS ((by rw [hg]; exact (q06 (z7 HB.out)) : w.heap.size ≤ gb365)); have n3_ := aS ((by rw [hg]; exact (q06 (z7 HB.out)) : w.heap.size ≤ gb365)); clear HB; have HB := n0_; have BK365 := n1_; have GW365 := n2_; have GE365 := n3_; clear n0_ n1_ n2_ n3_; clear hb hbox hg) | ((with_reducible refine q09 (N := 3) rfl ?_); refine q0k ?hg (N := 3) ?hd (cs := #[.int .i64 a1_0, .int .i64 a1_1, .int .i64 a1_2, .int .i64 a1_3]) (t := 52) ?hr ?_; (case hd => rfl); (case hg => rfl); (case hr => first | (go_simp; done) | (go_simp; rfl)); intro gb366 hg w7 hbox hb; have n0_ := aS (q01 (g := gb365) (o := .cells #[.slice A0_0 l0_0.length c0_0, .bool a0_1] 24 (0, 0)) (za BK365.out) hb); have n1_ := aS (q02 (z6 HB.out GE365.out) hb); have n2_ := aS (hbox); have n3_ := aS ((by rw [hg]; exact (q06 (z6 HB.out GE365.out)) : w.heap.size ≤ gb366)); have n4_ := aS ((by rw [hg]; exact (q06 (z6 HB.out GE365.out)) : w.heap.size ≤ gb366)); have n5_ := aS ((by rw [hg]; exact Nat.ne_of_lt (q0f (g := gb365) (o := .cells #[.slice A0_0 l0_0.length c0_0, .bool a0_1] 24 (0, 0)) (za BK365.out)) : gb365 ≠ gb366)); have n6_ := aS ((by rw [hg]; exact Nat.ne_of_gt (q0f (g := gb365) (o := .cells #[.slice A0_0 l0_0.length c0_0, .bool a0_1] 24 (0, 0)) (za BK365.out)) : gb366 ≠ gb365)); clear BK365; clear HB; have BK365 := n0_; have HB := n1_; have BK366 := n2_; have GW366 := n3_; have GE366 := n4_; have NB365_366 := n5_; have NB366_365 := n6_; clear n0_ n1_ n2_ n3_ n4_ n5_ n6_; clear hb hbox hg; have hnb8 := NB365_366.out; have hnc8 := NB366_365.out; have hcz9_0 : w7.cell? ⟨gb365, 0, none⟩ = some (.slice A0_0 l0_0.length c0_0) := (q05 BK365.out 0).trans rfl; have hcz9_1 : w7.cell? ⟨gb365, 1, none⟩ = some (.bool a0_1) := (q05 BK365.out 1).trans rfl; have hfz9_0 := q0m BK365.out 0; have hfz9_1 := q0m BK365.out 1) | ((with_reducible refine q0a (f := 90) rfl ?_); refine q0p (some 13) rfl rfl Tryd.func90 (by kernel_rfl) rfl #[.agg #[.slice A0_0 l0_0.length c0_0, .bool a0_1], .int .i64 0] rfl zd ?_; (with_reducible refine (clerestoryref1_marks.calls k _ _ l0_0 a0_1 0 t367 _ ?side1 ?side2 A3.out).mono ?_); (case side1 => repeat (first | exact (Kd.C_below HR0_0.out HB.out) | (with_reducible refine cA ?_ _) | (with_reducible refine cN ?_ _) | (with_reducible refine cD ?_))); (case side2 => exact HC0_0.out); rintro e w10 ⟨v368, rfl, ho0, hb⟩; refine ⟨_, rfl, ?_⟩; have n0_ := aS (Kd.R_lower ho0 (q06 (by repeat (first | (with_reducible first | exact HB.out | apply bA | apply bN | apply bD | refine bS ?_ GE365.out | refine bS ?_ GE366.out) | exact HB.out)))); have n1_ := aS (q01 (g := gb365) (o := .cells #[.slice A0_0 l0_0.length c0_0, .bool a0_1] 24 (0, 0)) (za BK365.out) hb); have n2_ := aS (q01 (g := gb366) (o := .cells #[.int .i64 a1_0, .int .i64 a1_1, .int .i64 a1_2, .int .i64 a1_3] 52 (0, 0)) (za BK366.out) hb); have n3_ := aS (q02 (by repeat (first | (with_reducible first | exact HB.out | apply bA | apply bN | apply bD | refine bS ?_ GE365.out | refine bS ?_ GE366.out) | exact HB.out)) hb); clear BK365; clear BK366; clear HB; have HO369 := n0_; have BK365 := n1_; have BK366 := n2_; have HB := n3_; clear n0_ n1_ n2_ n3_; (try clear hb); (try clear hb2); (try clear hk); (try clear hi); (try clear ho0)))
 have n0_ := aS (Kd.R_drew HO369.out)
 have n1_ := aS (q0r BK365.out)
 have n2_ := aS (q0r BK366.out)
 have n3_ := aS (q0t HB.out)
 clear HO369
 clear BK365
 clear BK366
 clear HB
 have HO369 := n0_
 have BK365 := n1_
 have BK366 := n2_
 have HB := n3_
 clear n0_ n1_ n2_ n3_
 refine start_ (n := 10) (S := fun w' => w'.cell? ⟨gb365, 0, none⟩ = some (.slice A0_0 l0_0.length c0_0) ∧ w'.cell? ⟨gb365, 1, none⟩ = some (.bool a0_1) ∧ w'.cell? ⟨gb366, 0, none⟩ = some (.int .i64 a1_0) ∧ w'.cell? ⟨gb366, 1, none⟩ = some (.int .i64 a1_1) ∧ w'.cell? ⟨gb366, 2, none⟩ = some (.int .i64 a1_2) ∧ w'.cell? ⟨gb366, 3, none⟩ = some (.int .i64 a1_3)) (ds := []) #[false, false, false, false, false, false, false, false, false, false] (by kernel_rfl) rfl rfl ⟨(q05 BK365.out 0).trans rfl, (q05 BK365.out 1).trans rfl, (q05 BK366.out 0).trans rfl, (q05 BK366.out 1).trans rfl, (q05 BK366.out 2).trans rfl, (q05 BK366.out 3).trans rfl⟩ (fun hHeld => ?_); refine q1a clerestoryref1_SpanText.tab2 clerestoryref1_SpanText.bits2 (fun HT_ HW_ => ?_)
 generalize w10.drew = w11 at HO369 BK365 BK366 HB hHeld ⊢
 refine q0j (i := 1) (N := some 15) (v := ?_) (a' := ?_) #[false, true, false, false, false, false, false, false, false, false] rfl rfl (q0d HT_.out (by kernel_rfl)) (fun _ _ _ h => h) (Or.inl ⟨by rfl, ?_⟩) ?_ ?_
 rotate_left
 ·intro w'
  go_simp
  with_reducible rfl
 rotate_left
 ·simp only [Act.put, s1, s2, s3, q0b, q0c]
  rfl
 refine q0j (i := 5) (N := some 19) (v := ?_) (a' := ?_) #[false, true, false, false, false, true, false, false, false, false] rfl rfl (q0d HT_.out (by kernel_rfl)) (fun _ _ _ h => h) (Or.inl ⟨by rfl, ?_⟩) ?_ ?_
 rotate_left
 ·intro w'
  go_simp
  with_reducible rfl
 rotate_left
 ·simp only [Act.put, s1, s2, s3, q0b, q0c]
  rfl
 refine take_ (i := 0) (N := some 14) (v := ?_) (a' := ?_) #[true, true, false, false, false, true, false, false, false, false] rfl rfl (q0o HT_.out HW_.out (by kernel_rfl)) (fun _ _ _ h => h) (Or.inl ⟨by rfl, ?_⟩) hHeld ?_ ?_
 rotate_left
 ·rintro w' ⟨s0, s1, s2, s3, s4, s5⟩
  go_simp
  with_reducible rfl
 rotate_left
 ·simp only [Act.put, s1, s2, s3, q0b, q0c]
  rfl
 refine take_ (i := 2) (N := some 16) (v := ?_) (a' := ?_) #[true, true, true, false, false, true, false, false, false, false] rfl rfl (q0o HT_.out HW_.out (by kernel_rfl)) (fun _ _ _ h => h) (Or.inl ⟨by rfl, ?_⟩) hHeld ?_ ?_
 rotate_left
 ·rintro w' ⟨s0, s1, s2, s3, s4, s5⟩
  go_simp
  with_reducible rfl
 rotate_left
 ·simp only [Act.put, s1, s2, s3, q0b, q0c]
  rfl
 refine take_ (i := 4) (N := some 18) (v := ?_) (a' := ?_) #[true, true, true, false, true, true, false, false, false, false] rfl rfl (q0o HT_.out HW_.out (by kernel_rfl)) (fun _ _ _ h => h) (Or.inl ⟨by rfl, ?_⟩) hHeld ?_ ?_
 rotate_left
 ·rintro w' ⟨s0, s1, s2, s3, s4, s5⟩
  go_simp
  with_reducible rfl
 rotate_left
 ·simp only [Act.put, s1, s2, s3, q0b, q0c]
  rfl
 refine take_ (i := 6) (N := some 20) (v := ?_) (a' := ?_) #[true, true, true, false, true, true, true, false, false, false] rfl rfl (q0o HT_.out HW_.out (by kernel_rfl)) (fun _ _ _ h => h) (Or.inl ⟨by rfl, ?_⟩) hHeld ?_ ?_
 rotate_left
 ·rintro w' ⟨s0, s1, s2, s3, s4, s5⟩
  go_simp
  with_reducible rfl
 rotate_left
 ·simp only [Act.put, s1, s2, s3, q0b, q0c]
  rfl
 refine one_ (i := 3) (N := some 17) #[true, true, true, true, true, true, true, false, false, false] rfl rfl (q1r HT_.out (by kernel_rfl)) (by decide) (fun K hK => ?_)
 refine goes_ Tryd.func84 (by kernel_rfl) rfl #[.agg #[.slice A0_0 l0_0.length c0_0, .bool a0_1], .agg #[.int .i64 a1_0, .int .i64 a1_1]] (by rfl) rfl rfl zd ?_
 with_reducible refine (clerestoryref1_markOf.calls k _ _ l0_0 a0_1 a1_0 a1_1 t370 _ ?side1 ?side2 A4.out).mono ?_
 (case side1 => repeat (first | exact (Kd.C_below HR0_0.out HB.out) | (with_reducible refine cA ?_ _) | (with_reducible refine cN ?_ _) | (with_reducible refine cD ?_)))
 (case side2 => exact HC0_0.out)
 rintro e w12 ⟨rfl, hb⟩
 refine ⟨_, rfl, ?_⟩
 have n0_ := aS (Kd.R_below (zg HO369.out) hb)
 have n1_ := aS (q01 (g := gb365) (o := .cells #[.slice A0_0 l0_0.length c0_0, .bool a0_1] 24 (0, 0)) (za BK365.out) hb)
 have n2_ := aS (q01 (g := gb366) (o := .cells #[.int .i64 a1_0, .int .i64 a1_1, .int .i64 a1_2, .int .i64 a1_3] 52 (0, 0)) (za BK366.out) hb)
 have n3_ := aS (q02 (by repeat (first | (with_reducible first | exact HB.out | apply bA | apply bN | apply bD | refine bS ?_ GE365.out | refine bS ?_ GE366.out) | exact HB.out)) hb)
 clear HO369
 clear BK365
 clear BK366
 clear HB
 have HO369 := n0_
 have BK365 := n1_
 have BK366 := n2_
 have HB := n3_
 clear n0_ n1_ n2_ n3_
 (try clear hb)
 (try clear hb2)
 (try clear hk)
 (try clear hi)
 refine hK.out _ _ ⟨(q05 BK365.out 0).trans rfl, (q05 BK365.out 1).trans rfl, (q05 BK366.out 0).trans rfl, (q05 BK366.out 1).trans rfl, (q05 BK366.out 2).trans rfl, (q05 BK366.out 3).trans rfl⟩ (fun hHeld => ?_)
 clear hK K
 refine norm_ (a' := ?_) ?_ ?_
 rotate_left
 ·show Act.put _ (some 17) _ = _
  simp only [Act.put, s1, s2, s3, q0b, q0c]
  rfl
 refine one_ (i := 7) (N := some 21) #[true, true, true, true, true, true, true, true, false, false] rfl rfl (q1r HT_.out (by kernel_rfl)) (by decide) (fun K hK => ?_)
 refine goes_ Tryd.func84 (by kernel_rfl) rfl #[.agg #[.slice A0_0 l0_0.length c0_0, .bool a0_1], .agg #[.int .i64 a1_2, .int .i64 a1_3]] (by rfl) rfl rfl zd ?_
 with_reducible refine (clerestoryref1_markOf.calls k _ _ l0_0 a0_1 a1_2 a1_3 t371 _ ?side1 ?side2 A5.out).mono ?_
 (case side1 => repeat (first | exact (Kd.C_below HR0_0.out HB.out) | (with_reducible refine cA ?_ _) | (with_reducible refine cN ?_ _) | (with_reducible refine cD ?_)))
 (case side2 => exact HC0_0.out)
 rintro e w13 ⟨rfl, hb⟩
 refine ⟨_, rfl, ?_⟩
 have n0_ := aS (Kd.R_below (zg HO369.out) hb)
 have n1_ := aS (q01 (g := gb365) (o := .cells #[.slice A0_0 l0_0.length c0_0, .bool a0_1] 24 (0, 0)) (za BK365.out) hb)
 have n2_ := aS (q01 (g := gb366) (o := .cells #[.int .i64 a1_0, .int .i64 a1_1, .int .i64 a1_2, .int .i64 a1_3] 52 (0, 0)) (za BK366.out) hb)
 have n3_ := aS (q02 (by repeat (first | (with_reducible first | exact HB.out | apply bA | apply bN | apply bD | refine bS ?_ GE365.out | refine bS ?_ GE366.out) | exact HB.out)) hb)
 clear HO369
 clear BK365
 clear BK366
 clear HB
 have HO369 := n0_
 have BK365 := n1_
 have BK366 := n2_
 have HB := n3_
 clear n0_ n1_ n2_ n3_
 (try clear hb)
 (try clear hb2)
 (try clear hk)
 (try clear hi)
 refine hK.out _ _ ⟨(q05 BK365.out 0).trans rfl, (q05 BK365.out 1).trans rfl, (q05 BK366.out 0).trans rfl, (q05 BK366.out 1).trans rfl, (q05 BK366.out 2).trans rfl, (q05 BK366.out 3).trans rfl⟩ (fun hHeld => ?_)
 clear hK K
 refine norm_ (a' := ?_) ?_ ?_
 rotate_left
 ·show Act.put _ (some 21) _ = _
  simp only [Act.put, s1, s2, s3, q0b, q0c]
  rfl
 refine q0j (i := 8) (N := some 6) (v := ?_) (a' := ?_) #[true, true, true, true, true, true, true, true, true, false] rfl rfl (q0d HT_.out (by kernel_rfl)) (fun _ _ _ h => h) (Or.inl ⟨by rfl, ?_⟩) ?_ ?_
 rotate_left
 ·intro w'
  go_simp
  with_reducible rfl
 rotate_left
 ·simp only [Act.put, s1, s2, s3, q0b, q0c]
  rfl
 refine q0j (i := 9) (N := some 7) (v := ?_) (a' := ?_) #[true, true, true, true, true, true, true, true, true, true] rfl rfl (q0d HT_.out (by kernel_rfl)) (fun _ _ _ h => h) (Or.inl ⟨by rfl, ?_⟩) ?_ ?_
 rotate_left
 ·intro w'
  go_simp
  with_reducible rfl
 rotate_left
 ·simp only [Act.put, s1, s2, s3, q0b, q0c]
  rfl
 refine done_ (q1s HT_.out (by kernel_rfl)) ?_
 try go_wp2
 go_loopg [8, 9] k (fun kq v8 v9 w' => ∃ (x8_1 : ByteArray) (x9_1 : Int), v8 = .string x8_1 ∧ v9 = .int .i64 x9_1 ∧ Aside0 (clerestoryref1_SpanText.l0 kq t367 t371 x8_1 x9_1 l0_0 a0_1 = some r) ∧ Aside0 (kq ≤ k) ∧ Aside0 (Kd.R k50 50 w' w.heap.size (fun _ => True) v368 t367) ∧ Aside0 (w'.heap[gb365]? = some (.cells #[(.slice A0_0 l0_0.length c0_0), .bool a0_1] 24 (0, 0))) ∧ Aside0 (w'.heap[gb366]? = some (.cells #[.int .i64 a1_0, .int .i64 a1_1, .int .i64 a1_2, .int .i64 a1_3] 52 (0, 0))) ∧ Aside0 (Below w.heap.size w w'))
 case atStart => exact ⟨((⟨#[]⟩ : ByteArray)), (t370), zj, zj, H', ⟨Nat.le_refl _⟩, ⟨by (with_reducible repeat (first | apply rA | apply rN | apply rD)); exact HO369.out⟩, ⟨by (with_reducible repeat (first | refine kN ?_ _ | refine kD ?_ | refine kA ?_ _)); exact BK365.out⟩, ⟨by (with_reducible repeat (first | refine kN ?_ _ | refine kD ?_ | refine kA ?_ _)); exact BK366.out⟩, ⟨by repeat (first | (with_reducible first | exact HB.out | apply bA | apply bN | apply bD | refine bS ?_ GE365.out | refine bS ?_ GE366.out) | exact HB.out)⟩⟩
 case round =>
  clear H'
  try clear p2
  try clear c4
  try clear c8
  try clear c9
  try clear hcz9_0
  try clear hcz9_1
  try clear hfz9_0
  try clear hfz9_1
  obtain ⟨x8_1, x9_1, rfl, rfl, HA, HK1, HO_5, BK365, BK366, HB⟩ := hrel
  cases gk with
  | zero => exact absurd HA.out (by simp [clerestoryref1_SpanText.l0])
  | succ k1 =>
   have H := HA.out
   clear HA
   simp only [clerestoryref1_SpanText.l0] at H
   by_cases c14 : x9_1 < t371
   ·rw [if_pos c14] at H
    have c14b0 : decide (x9_1 < t371) = true := decide_eq_true c14
    clear c14
    by_cases c15 : 0 ≤ x9_1
    ·rw [if_pos c15] at H
     have c15b0 : decide (0 ≤ x9_1) = true := decide_eq_true c15
     clear c15
     by_cases c16 : x9_1 < (t367.length : Int)
     ·rw [if_pos c16] at H
      have c16b0 : decide (x9_1 < (t367.length : Int)) = true := decide_eq_true c16
      clear c16
      obtain ⟨ji17, hji17⟩ : ∃ j_ : Int, (wrap64 (x9_1 + 1)) = j_ := ⟨_, rfl⟩
      replace H : (if 0 ≤ (ji17) then (if (ji17) < (t367.length : Int) then (if ((q08 t367 x9_1).f0) = ((q08 t367 (ji17)).f0) then (if 0 ≤ ((q08 t367 x9_1).f0) then (if ((q08 t367 x9_1).f0) < (l0_0.length : Int) then (if ((q00 l0_0 ((q08 t367 x9_1).f0)).f0) = 3 then (if 0 ≤ ((q08 t367 x9_1).f1) then (if ((q08 t367 x9_1).f1) ≤ ((q08 t367 (ji17)).f1) then (if ((q08 t367 (ji17)).f1) ≤ (((q00 l0_0 ((q08 t367 x9_1).f0)).f3).size : Int) then (if x8_1.size + (((q00 l0_0 ((q08 t367 x9_1).f0)).f3).extract (((q08 t367 x9_1).f1) : Int).toNat (((q08 t367 (ji17)).f1) : Int).toNat).size ≤ 9223372036854775807 then (clerestoryref1_SpanText.l0 k1 t367 t371 (x8_1 ++ (((q00 l0_0 ((q08 t367 x9_1).f0)).f3).extract (((q08 t367 x9_1).f1) : Int).toNat (((q08 t367 (ji17)).f1) : Int).toNat)) ji17 l0_0 a0_1) else (none)) else (none)) else (none)) else (none)) else (clerestoryref1_SpanText.l0 k1 t367 t371 x8_1 ji17 l0_0 a0_1)) else (none)) else (none)) else (clerestoryref1_SpanText.l0 k1 t367 t371 x8_1 ji17 l0_0 a0_1)) else (none)) else (none)) = some r := by first | (rw [hji17] at H; exact H) | (simp only [hji17] at H ⊢; exact H)
      have hji17w : (IntKind.i64.wrap (x9_1 + 1)) = ji17 := (q0b _).trans hji17
      by_cases c18 : 0 ≤ (ji17)
      ·rw [if_pos c18] at H
       have c18b0 : decide (0 ≤ (ji17)) = true := decide_eq_true c18
       clear c18
       by_cases c19 : (ji17) < (t367.length : Int)
       ·rw [if_pos c19] at H
        have c19b0 : decide ((ji17) < (t367.length : Int)) = true := decide_eq_true c19
        clear c19
        have HQ_ := aS H
        clear H
        try go_wp2
        have n0_ := aS (Kd.R_drew HO_5.out)
        have n1_ := aS (q0r BK365.out)
        have n2_ := aS (q0r BK366.out)
        have n3_ := aS (q0t HB.out)
        clear HO_5
        clear BK365
        clear BK366
        clear HB
        have HO_5 := n0_
        have BK365 := n1_
        have BK366 := n2_
        have HB := n3_
        clear n0_ n1_ n2_ n3_
        obtain ⟨Ao29, co29, eo29⟩ := Kd.R_slice HO_5.out
        (first | subst eo29 | (injection eo29 with f1_ f2_ f3_; have f4_ := f1_.symm; have f5_ := f3_.symm; clear f1_ f2_ f3_; subst f4_; subst f5_))
        have p372 : 0 ≤ (x9_1 : Int) := od zc
        have q372 : x9_1 < (t367.length : Int) := od zc
        obtain ⟨ad372, e372, hx372_0, hx372_1⟩ := at_T50 (Kd.R_reads' HO_5.out).2.2 x9_1 p372 q372
        cases e372
        replace p372 := eq_true p372
        replace q372 := eq_true q372
        have p373 : 0 ≤ ((ji17) : Int) := od zc
        have q373 : (ji17) < (t367.length : Int) := od zc
        obtain ⟨ad373, e373, hx373_0, hx373_1⟩ := at_T50 (Kd.R_reads' HO_5.out).2.2 (ji17) p373 q373
        obtain rfl : ad372 = ad373 := (by injection e373)
        replace p373 := eq_true p373
        replace q373 := eq_true q373
        refine start_ (n := 13) (S := fun w' => w'.cell? (ad372.add ((x9_1).toNat * 2)) = some (.int .i64 ((q08 t367 x9_1).f0)) ∧ w'.cell? ⟨(ad372.add ((x9_1).toNat * 2)).block, (ad372.add ((x9_1).toNat * 2)).off + 1, none⟩ = some (.int .i64 ((q08 t367 x9_1).f1)) ∧ w'.cell? (ad372.add (((ji17)).toNat * 2)) = some (.int .i64 ((q08 t367 (ji17)).f0)) ∧ w'.cell? ⟨(ad372.add (((ji17)).toNat * 2)).block, (ad372.add (((ji17)).toNat * 2)).off + 1, none⟩ = some (.int .i64 ((q08 t367 (ji17)).f1))) (ds := []) #[false, false, false, false, false, false, false, false, false, false, false, false, false] (by kernel_rfl) rfl rfl ⟨hx372_0, hx372_1, hx373_0, hx373_1⟩ (fun hHeld => ?_); refine q1a clerestoryref1_SpanText.tab7 clerestoryref1_SpanText.bits7 (fun HT_ HW_ => ?_)
        generalize wr.drew = w28 at HO_5 BK365 BK366 HB hx372_0 hx372_1 hx373_0 hx373_1 hHeld ⊢
        refine q0j (i := 0) (N := some 28) (v := ?_) (a' := ?_) #[true, false, false, false, false, false, false, false, false, false, false, false, false] rfl rfl (q0d HT_.out (by kernel_rfl)) (fun _ _ _ h => h) (Or.inl ⟨by rfl, ?_⟩) ?_ ?_
        rotate_left
        ·intro w'
         go_simp
         with_reducible rfl
        rotate_left
        ·simp only [Act.put, s1, s2, s3, q0b, q0c]
         rfl
        refine q0j (i := 1) (N := some 29) (v := ?_) (a' := ?_) #[true, true, false, false, false, false, false, false, false, false, false, false, false] rfl rfl (q0d HT_.out (by kernel_rfl)) (fun _ _ _ h => h) (Or.inl ⟨by rfl, ?_⟩) ?_ ?_
        rotate_left
        ·intro w'
         go_simp
         with_reducible rfl
        rotate_left
        ·simp only [Act.put, s1, s2, s3, q0b, q0c]
         rfl
        refine q0j (i := 2) (N := some 30) (v := ?_) (a' := ?_) #[true, true, true, false, false, false, false, false, false, false, false, false, false] rfl rfl (q0d HT_.out (by kernel_rfl)) (fun _ _ _ h => h) (Or.inl ⟨by rfl, ?_⟩) ?_ ?_
        rotate_left
        ·intro w'
         go_simp
         with_reducible rfl
        rotate_left
        ·simp only [Act.put, s1, s2, s3, q0b, q0c]
         rfl
        refine q0j (i := 4) (N := some 32) (v := ?_) (a' := ?_) #[true, true, true, false, true, false, false, false, false, false, false, false, false] rfl rfl (q0d HT_.out (by kernel_rfl)) (fun _ _ _ h => h) (Or.inl ⟨by rfl, ?_⟩) ?_ ?_
        rotate_left
        ·intro w'
         go_simp
         with_reducible rfl
        rotate_left
        ·simp only [Act.put, s1, s2, s3, q0b, q0c]
         rfl
        refine q0j (i := 5) (N := some 33) (v := ?_) (a' := ?_) #[true, true, true, false, true, true, false, false, false, false, false, false, false] rfl rfl (q0d HT_.out (by kernel_rfl)) (fun _ _ _ h => h) (Or.inl ⟨by rfl, ?_⟩) ?_ ?_
        rotate_left
        ·intro w'
         go_simp
         with_reducible rfl
        rotate_left
        ·simp only [Act.put, s1, s2, s3, q0b, q0c]
         rfl
        refine q0j (i := 6) (N := some 34) (v := ?_) (a' := ?_) #[true, true, true, false, true, true, true, false, false, false, false, false, false] rfl rfl (q0d HT_.out (by kernel_rfl)) (fun _ _ _ h => h) (Or.inl ⟨by rfl, ?_⟩) ?_ ?_
        rotate_left
        ·intro w'
         go_simp
         with_reducible rfl
        rotate_left
        ·simp only [Act.put, s1, s2, s3, q0b, q0c]
         rfl
        refine q0j (i := 7) (N := some 35) (v := ?_) (a' := ?_) #[true, true, true, false, true, true, true, true, false, false, false, false, false] rfl rfl (q0d HT_.out (by kernel_rfl)) (fun _ _ _ h => h) (Or.inl ⟨by rfl, ?_⟩) ?_ ?_
        rotate_left
        ·intro w'
         go_simp
         with_reducible rfl
        rotate_left
        ·simp only [Act.put, s1, s2, s3, q0b, q0c]
         rfl
        refine take_ (i := 3) (N := some 31) (v := ?_) (a' := ?_) #[true, true, true, true, true, true, true, true, false, false, false, false, false] rfl rfl (q0o HT_.out HW_.out (by kernel_rfl)) (fun _ _ _ h => h) (Or.inl ⟨by rfl, ?_⟩) hHeld ?_ ?_
        rotate_left
        ·rintro w' ⟨s0, s1, s2, s3⟩
         go_simp
         with_reducible rfl
        rotate_left
        ·simp only [Act.put, s1, s2, s3, q0b, q0c]
         rfl
        refine take_ (i := 8) (N := some 36) (v := ?_) (a' := ?_) #[true, true, true, true, true, true, true, true, true, false, false, false, false] rfl rfl (q0o HT_.out HW_.out (by kernel_rfl)) (fun _ _ _ h => h) (Or.inl ⟨by rfl, ?_⟩) hHeld ?_ ?_
        rotate_left
        ·rintro w' ⟨s0, s1, s2, s3⟩
         go_simp
         with_reducible rfl
        rotate_left
        ·simp only [Act.put, s1, s2, s3, q0b, q0c]
         rfl
        refine join_ (σ := Nat × Nat) 2 #[true, true, true, true, true, true, true, true, true, true, true, false, false] (fun s_ => [(10, .pointer (some ⟨s_.1, 0, none⟩)), (11, .pointer (some ⟨s_.2, 0, none⟩))]) (fun s_ w' => (w'.cell? (ad372.add ((x9_1).toNat * 2)) = some (.int .i64 ((q08 t367 x9_1).f0)) ∧ w'.cell? ⟨(ad372.add ((x9_1).toNat * 2)).block, (ad372.add ((x9_1).toNat * 2)).off + 1, none⟩ = some (.int .i64 ((q08 t367 x9_1).f1)) ∧ w'.cell? (ad372.add (((ji17)).toNat * 2)) = some (.int .i64 ((q08 t367 (ji17)).f0)) ∧ w'.cell? ⟨(ad372.add (((ji17)).toNat * 2)).block, (ad372.add (((ji17)).toNat * 2)).off + 1, none⟩ = some (.int .i64 ((q08 t367 (ji17)).f1))) ∧ (Kd.R k50 50 w' w.heap.size (fun k_ => k_ ≠ s_.1 ∧ k_ ≠ s_.2) (.slice (some ad372) t367.length co29) t367) ∧ (w'.heap[gb365]? = some (.cells #[.slice A0_0 l0_0.length c0_0, .bool a0_1] 24 (0, 0))) ∧ (w'.heap[gb366]? = some (.cells #[.int .i64 a1_0, .int .i64 a1_1, .int .i64 a1_2, .int .i64 a1_3] 52 (0, 0))) ∧ (w'.heap[s_.1]? = some (.cells #[.int .i64 0, .int .i64 0] 50 (0, 0))) ∧ (w'.heap[s_.2]? = some (.cells #[.int .i64 0, .int .i64 0] 50 (0, 0))) ∧ (w.heap.size ≤ s_.1) ∧ (w.heap.size ≤ s_.1) ∧ (gb365 ≠ s_.1) ∧ (s_.1 ≠ gb365) ∧ (gb366 ≠ s_.1) ∧ (s_.1 ≠ gb366) ∧ (s_.2 ≠ s_.1) ∧ (s_.1 ≠ s_.2) ∧ (w.heap.size ≤ s_.2) ∧ (w.heap.size ≤ s_.2) ∧ (gb365 ≠ s_.2) ∧ (s_.2 ≠ gb365) ∧ (gb366 ≠ s_.2) ∧ (s_.2 ≠ gb366) ∧ (Below w.heap.size w w')) ?_ ?_
        rotate_left
        ·intro hCont
         refine two_ (i := 9) (j := 10) (Ni := some 10) (Nj := some 11) #[true, true, true, true, true, true, true, true, true, true, false, false, false] #[true, true, true, true, true, true, true, true, true, false, true, false, false] rfl rfl rfl rfl (two_of HT_.out (by kernel_rfl)) (by decide) (by decide) (fun K hK => ?_) (fun K hK => ?_)
         ·skip
          refine box_step ?hg (N := 10) ?hd (cs := #[.int .i64 0, .int .i64 0]) (t := 50) ?hr ?_; (case hd => rfl); (case hg => rfl); (case hr => first | (go_simp; done) | (go_simp; rfl))
          intro gb374 hg w30 hbox hb
          have HS0_ := (hb.cell (World.block_lt_of_cell? _ _ (hHeld.1))).trans (hHeld.1)
          have HS1_ := (hb.cell (World.block_lt_of_cell? _ _ (hHeld.2.1))).trans (hHeld.2.1)
          have HS2_ := (hb.cell (World.block_lt_of_cell? _ _ (hHeld.2.2.1))).trans (hHeld.2.2.1)
          have HS3_ := (hb.cell (World.block_lt_of_cell? _ _ (hHeld.2.2.2))).trans (hHeld.2.2.2)
          have n0_ := aS (Kd.R_below (Kd.R_elderB (zg HO_5.out) gb374 (Nat.le_of_eq hg.symm)) hb)
          have n1_ := aS (q01 (g := gb365) (o := .cells #[.slice A0_0 l0_0.length c0_0, .bool a0_1] 24 (0, 0)) (za BK365.out) hb)
          have n2_ := aS (q01 (g := gb366) (o := .cells #[.int .i64 a1_0, .int .i64 a1_1, .int .i64 a1_2, .int .i64 a1_3] 52 (0, 0)) (za BK366.out) hb)
          have n3_ := aS (q02 (by repeat (first | (with_reducible first | exact HB.out | apply bA | apply bN | apply bD | refine bS ?_ GE365.out | refine bS ?_ GE366.out) | exact HB.out)) hb)
          have n4_ := aS (hbox)
          have n5_ := aS ((by rw [hg]; exact (q06 (by repeat (first | (with_reducible first | exact HB.out | apply bA | apply bN | apply bD | refine bS ?_ GE365.out | refine bS ?_ GE366.out) | exact HB.out))) : w.heap.size ≤ gb374))
          have n6_ := aS ((by rw [hg]; exact (q06 (by repeat (first | (with_reducible first | exact HB.out | apply bA | apply bN | apply bD | refine bS ?_ GE365.out | refine bS ?_ GE366.out) | exact HB.out))) : w.heap.size ≤ gb374))
          have n7_ := aS ((by rw [hg]; exact Nat.ne_of_lt (q0f (g := gb365) (o := .cells #[.slice A0_0 l0_0.length c0_0, .bool a0_1] 24 (0, 0)) (za BK365.out)) : gb365 ≠ gb374))
          have n8_ := aS ((by rw [hg]; exact Nat.ne_of_gt (q0f (g := gb365) (o := .cells #[.slice A0_0 l0_0.length c0_0, .bool a0_1] 24 (0, 0)) (za BK365.out)) : gb374 ≠ gb365))
          have n9_ := aS ((by rw [hg]; exact Nat.ne_of_lt (q0f (g := gb366) (o := .cells #[.int .i64 a1_0, .int .i64 a1_1, .int .i64 a1_2, .int .i64 a1_3] 52 (0, 0)) (za BK366.out)) : gb366 ≠ gb374))
          have n10_ := aS ((by rw [hg]; exact Nat.ne_of_gt (q0f (g := gb366) (o := .cells #[.int .i64 a1_0, .int .i64 a1_1, .int .i64 a1_2, .int .i64 a1_3] 52 (0, 0)) (za BK366.out)) : gb374 ≠ gb366))
          clear HO_5
          clear BK365
          clear BK366
          clear HB
          have HO_5 := n0_
          have BK365 := n1_
          have BK366 := n2_
          have HB := n3_
          have BK374 := n4_
          have GW374 := n5_
          have GE374 := n6_
          have NB365_374 := n7_
          have NB374_365 := n8_
          have NB366_374 := n9_
          have NB374_366 := n10_
          clear n0_ n1_ n2_ n3_ n4_ n5_ n6_ n7_ n8_ n9_ n10_
          clear hb hbox hg
          refine hK.out _ _ ⟨HS0_, HS1_, HS2_, HS3_⟩ (fun hHeld => ?_)
          clear hK K
          refine norm_ (a' := ?_) ?_ ?_
          rotate_left
          ·show Act.put _ (some 10) _ = _
           simp only [Act.put, s1, s2, s3, q0b, q0c]
           rfl
          refine one_ (i := 10) (N := some 11) #[true, true, true, true, true, true, true, true, true, true, true, false, false] rfl rfl (q1r HT_.out (by kernel_rfl)) (by decide) (fun K hK => ?_)
          refine box_step ?hg (N := 11) ?hd (cs := #[.int .i64 0, .int .i64 0]) (t := 50) ?hr ?_; (case hd => rfl); (case hg => rfl); (case hr => first | (go_simp; done) | (go_simp; rfl))
          intro gb375 hg w31 hbox hb
          have HS0_ := (hb.cell (World.block_lt_of_cell? _ _ (hHeld.1))).trans (hHeld.1)
          have HS1_ := (hb.cell (World.block_lt_of_cell? _ _ (hHeld.2.1))).trans (hHeld.2.1)
          have HS2_ := (hb.cell (World.block_lt_of_cell? _ _ (hHeld.2.2.1))).trans (hHeld.2.2.1)
          have HS3_ := (hb.cell (World.block_lt_of_cell? _ _ (hHeld.2.2.2))).trans (hHeld.2.2.2)
          have n0_ := aS (Kd.R_below (Kd.R_elderB (zg HO_5.out) gb375 (Nat.le_of_eq hg.symm)) hb)
          have n1_ := aS (q01 (g := gb365) (o := .cells #[.slice A0_0 l0_0.length c0_0, .bool a0_1] 24 (0, 0)) (za BK365.out) hb)
          have n2_ := aS (q01 (g := gb366) (o := .cells #[.int .i64 a1_0, .int .i64 a1_1, .int .i64 a1_2, .int .i64 a1_3] 52 (0, 0)) (za BK366.out) hb)
          have n3_ := aS (q01 (g := gb374) (o := .cells #[.int .i64 0, .int .i64 0] 50 (0, 0)) (za BK374.out) hb)
          have n4_ := aS (q02 (by repeat (first | (with_reducible first | exact HB.out | apply bA | apply bN | apply bD | refine bS ?_ GE365.out | refine bS ?_ GE366.out | refine bS ?_ GE374.out) | exact HB.out)) hb)
          have n5_ := aS (hbox)
          have n6_ := aS ((by rw [hg]; exact (q06 (by repeat (first | (with_reducible first | exact HB.out | apply bA | apply bN | apply bD | refine bS ?_ GE365.out | refine bS ?_ GE366.out | refine bS ?_ GE374.out) | exact HB.out))) : w.heap.size ≤ gb375))
          have n7_ := aS ((by rw [hg]; exact (q06 (by repeat (first | (with_reducible first | exact HB.out | apply bA | apply bN | apply bD | refine bS ?_ GE365.out | refine bS ?_ GE366.out | refine bS ?_ GE374.out) | exact HB.out))) : w.heap.size ≤ gb375))
          have n8_ := aS ((by rw [hg]; exact Nat.ne_of_lt (q0f (g := gb365) (o := .cells #[.slice A0_0 l0_0.length c0_0, .bool a0_1] 24 (0, 0)) (za BK365.out)) : gb365 ≠ gb375))
          have n9_ := aS ((by rw [hg]; exact Nat.ne_of_gt (q0f (g := gb365) (o := .cells #[.slice A0_0 l0_0.length c0_0, .bool a0_1] 24 (0, 0)) (za BK365.out)) : gb375 ≠ gb365))
          have n10_ := aS ((by rw [hg]; exact Nat.ne_of_lt (q0f (g := gb366) (o := .cells #[.int .i64 a1_0, .int .i64 a1_1, .int .i64 a1_2, .int .i64 a1_3] 52 (0, 0)) (za BK366.out)) : gb366 ≠ gb375))
          have n11_ := aS ((by rw [hg]; exact Nat.ne_of_gt (q0f (g := gb366) (o := .cells #[.int .i64 a1_0, .int .i64 a1_1, .int .i64 a1_2, .int .i64 a1_3] 52 (0, 0)) (za BK366.out)) : gb375 ≠ gb366))
          have n12_ := aS ((by rw [hg]; exact Nat.ne_of_lt (q0f (g := gb374) (o := .cells #[.int .i64 0, .int .i64 0] 50 (0, 0)) (za BK374.out)) : gb374 ≠ gb375))
          have n13_ := aS ((by rw [hg]; exact Nat.ne_of_gt (q0f (g := gb374) (o := .cells #[.int .i64 0, .int .i64 0] 50 (0, 0)) (za BK374.out)) : gb375 ≠ gb374))
          clear HO_5
          clear BK365
          clear BK366
          clear BK374
          clear HB
          have HO_5 := n0_
          have BK365 := n1_
          have BK366 := n2_
          have BK374 := n3_
          have HB := n4_
          have BK375 := n5_
          have GW375 := n6_
          have GE375 := n7_
          have NB365_375 := n8_
          have NB375_365 := n9_
          have NB366_375 := n10_
          have NB375_366 := n11_
          have NB374_375 := n12_
          have NB375_374 := n13_
          clear n0_ n1_ n2_ n3_ n4_ n5_ n6_ n7_ n8_ n9_ n10_ n11_ n12_ n13_
          clear hb hbox hg
          refine hK.out _ _ ⟨HS0_, HS1_, HS2_, HS3_⟩ (fun hHeld => ?_)
          clear hK K
          refine norm_ (a' := ?_) ?_ ?_
          rotate_left
          ·show Act.put _ (some 11) _ = _
           simp only [Act.put, s1, s2, s3, q0b, q0c]
           rfl
          exact norm_ (by simp only [putAll, Act.put, List.setIfInBounds_toArray, List.set_cons_zero, List.set_cons_succ]) (hCont (gb374, gb375) _ ⟨hHeld, (by (with_reducible repeat (first | apply rA | apply rN | apply rD)); exact Kd.R_mono HO_5.out (fun _ hk => ⟨hk.1.2, hk.2⟩)), (za BK365.out), (za BK366.out), (za BK374.out), (za BK375.out), GW374.out, GE374.out, NB365_374.out, NB374_365.out, NB366_374.out, NB374_366.out, NB375_374.out, NB374_375.out, GW375.out, GE375.out, NB365_375.out, NB375_365.out, NB366_375.out, NB375_366.out, (by repeat (first | (with_reducible first | exact HB.out | apply bA | apply bN | apply bD | refine bS ?_ GE365.out | refine bS ?_ GE366.out | refine bS ?_ GE374.out | refine bS ?_ GE375.out) | exact HB.out))⟩)
         ·skip
          refine box_step ?hg (N := 11) ?hd (cs := #[.int .i64 0, .int .i64 0]) (t := 50) ?hr ?_; (case hd => rfl); (case hg => rfl); (case hr => first | (go_simp; done) | (go_simp; rfl))
          intro gb375 hg w30 hbox hb
          have HS0_ := (hb.cell (World.block_lt_of_cell? _ _ (hHeld.1))).trans (hHeld.1)
          have HS1_ := (hb.cell (World.block_lt_of_cell? _ _ (hHeld.2.1))).trans (hHeld.2.1)
          have HS2_ := (hb.cell (World.block_lt_of_cell? _ _ (hHeld.2.2.1))).trans (hHeld.2.2.1)
          have HS3_ := (hb.cell (World.block_lt_of_cell? _ _ (hHeld.2.2.2))).trans (hHeld.2.2.2)
          have n0_ := aS (Kd.R_below (Kd.R_elderB (zg HO_5.out) gb375 (Nat.le_of_eq hg.symm)) hb)
          have n1_ := aS (q01 (g := gb365) (o := .cells #[.slice A0_0 l0_0.length c0_0, .bool a0_1] 24 (0, 0)) (za BK365.out) hb)
          have n2_ := aS (q01 (g := gb366) (o := .cells #[.int .i64 a1_0, .int .i64 a1_1, .int .i64 a1_2, .int .i64 a1_3] 52 (0, 0)) (za BK366.out) hb)
          have n3_ := aS (q02 (by repeat (first | (with_reducible first | exact HB.out | apply bA | apply bN | apply bD | refine bS ?_ GE365.out | refine bS ?_ GE366.out) | exact HB.out)) hb)
          have n4_ := aS (hbox)
          have n5_ := aS ((by rw [hg]; exact (q06 (by repeat (first | (with_reducible first | exact HB.out | apply bA | apply bN | apply bD | refine bS ?_ GE365.out | refine bS ?_ GE366.out) | exact HB.out))) : w.heap.size ≤ gb375))
          have n6_ := aS ((by rw [hg]; exact (q06 (by repeat (first | (with_reducible first | exact HB.out | apply bA | apply bN | apply bD | refine bS ?_ GE365.out | refine bS ?_ GE366.out) | exact HB.out))) : w.heap.size ≤ gb375))
          have n7_ := aS ((by rw [hg]; exact Nat.ne_of_lt (q0f (g := gb365) (o := .cells #[.slice A0_0 l0_0.length c0_0, .bool a0_1] 24 (0, 0)) (za BK365.out)) : gb365 ≠ gb375))
          have n8_ := aS ((by rw [hg]; exact Nat.ne_of_gt (q0f (g := gb365) (o := .cells #[.slice A0_0 l0_0.length c0_0, .bool a0_1] 24 (0, 0)) (za BK365.out)) : gb375 ≠ gb365))
          have n9_ := aS ((by rw [hg]; exact Nat.ne_of_lt (q0f (g := gb366) (o := .cells #[.int .i64 a1_0, .int .i64 a1_1, .int .i64 a1_2, .int .i64 a1_3] 52 (0, 0)) (za BK366.out)) : gb366 ≠ gb375))
          have n10_ := aS ((by rw [hg]; exact Nat.ne_of_gt (q0f (g := gb366) (o := .cells #[.int .i64 a1_0, .int .i64 a1_1, .int .i64 a1_2, .int .i64 a1_3] 52 (0, 0)) (za BK366.out)) : gb375 ≠ gb366))
          clear HO_5
          clear BK365
          clear BK366
          clear HB
          have HO_5 := n0_
          have BK365 := n1_
          have BK366 := n2_
          have HB := n3_
          have BK375 := n4_
          have GW375 := n5_
          have GE375 := n6_
          have NB365_375 := n7_
          have NB375_365 := n8_
          have NB366_375 := n9_
          have NB375_366 := n10_
          clear n0_ n1_ n2_ n3_ n4_ n5_ n6_ n7_ n8_ n9_ n10_
          clear hb hbox hg
          refine hK.out _ _ ⟨HS0_, HS1_, HS2_, HS3_⟩ (fun hHeld => ?_)
          clear hK K
          refine norm_ (a' := ?_) ?_ ?_
          rotate_left
          ·show Act.put _ (some 11) _ = _
           simp only [Act.put, s1, s2, s3, q0b, q0c]
           rfl
          refine one_ (i := 9) (N := some 10) #[true, true, true, true, true, true, true, true, true, true, true, false, false] rfl rfl (q1r HT_.out (by kernel_rfl)) (by decide) (fun K hK => ?_)
          refine box_step ?hg (N := 10) ?hd (cs := #[.int .i64 0, .int .i64 0]) (t := 50) ?hr ?_; (case hd => rfl); (case hg => rfl); (case hr => first | (go_simp; done) | (go_simp; rfl))
          intro gb374 hg w31 hbox hb
          have HS0_ := (hb.cell (World.block_lt_of_cell? _ _ (hHeld.1))).trans (hHeld.1)
          have HS1_ := (hb.cell (World.block_lt_of_cell? _ _ (hHeld.2.1))).trans (hHeld.2.1)
          have HS2_ := (hb.cell (World.block_lt_of_cell? _ _ (hHeld.2.2.1))).trans (hHeld.2.2.1)
          have HS3_ := (hb.cell (World.block_lt_of_cell? _ _ (hHeld.2.2.2))).trans (hHeld.2.2.2)
          have n0_ := aS (Kd.R_below (Kd.R_elderB (zg HO_5.out) gb374 (Nat.le_of_eq hg.symm)) hb)
          have n1_ := aS (q01 (g := gb365) (o := .cells #[.slice A0_0 l0_0.length c0_0, .bool a0_1] 24 (0, 0)) (za BK365.out) hb)
          have n2_ := aS (q01 (g := gb366) (o := .cells #[.int .i64 a1_0, .int .i64 a1_1, .int .i64 a1_2, .int .i64 a1_3] 52 (0, 0)) (za BK366.out) hb)
          have n3_ := aS (q01 (g := gb375) (o := .cells #[.int .i64 0, .int .i64 0] 50 (0, 0)) (za BK375.out) hb)
          have n4_ := aS (q02 (by repeat (first | (with_reducible first | exact HB.out | apply bA | apply bN | apply bD | refine bS ?_ GE365.out | refine bS ?_ GE366.out | refine bS ?_ GE375.out) | exact HB.out)) hb)
          have n5_ := aS (hbox)
          have n6_ := aS ((by rw [hg]; exact (q06 (by repeat (first | (with_reducible first | exact HB.out | apply bA | apply bN | apply bD | refine bS ?_ GE365.out | refine bS ?_ GE366.out | refine bS ?_ GE375.out) | exact HB.out))) : w.heap.size ≤ gb374))
          have n7_ := aS ((by rw [hg]; exact (q06 (by repeat (first | (with_reducible first | exact HB.out | apply bA | apply bN | apply bD | refine bS ?_ GE365.out | refine bS ?_ GE366.out | refine bS ?_ GE375.out) | exact HB.out))) : w.heap.size ≤ gb374))
          have n8_ := aS ((by rw [hg]; exact Nat.ne_of_lt (q0f (g := gb365) (o := .cells #[.slice A0_0 l0_0.length c0_0, .bool a0_1] 24 (0, 0)) (za BK365.out)) : gb365 ≠ gb374))
          have n9_ := aS ((by rw [hg]; exact Nat.ne_of_gt (q0f (g := gb365) (o := .cells #[.slice A0_0 l0_0.length c0_0, .bool a0_1] 24 (0, 0)) (za BK365.out)) : gb374 ≠ gb365))
          have n10_ := aS ((by rw [hg]; exact Nat.ne_of_lt (q0f (g := gb366) (o := .cells #[.int .i64 a1_0, .int .i64 a1_1, .int .i64 a1_2, .int .i64 a1_3] 52 (0, 0)) (za BK366.out)) : gb366 ≠ gb374))
          have n11_ := aS ((by rw [hg]; exact Nat.ne_of_gt (q0f (g := gb366) (o := .cells #[.int .i64 a1_0, .int .i64 a1_1, .int .i64 a1_2, .int .i64 a1_3] 52 (0, 0)) (za BK366.out)) : gb374 ≠ gb366))
          have n12_ := aS ((by rw [hg]; exact Nat.ne_of_lt (q0f (g := gb375) (o := .cells #[.int .i64 0, .int .i64 0] 50 (0, 0)) (za BK375.out)) : gb375 ≠ gb374))
          have n13_ := aS ((by rw [hg]; exact Nat.ne_of_gt (q0f (g := gb375) (o := .cells #[.int .i64 0, .int .i64 0] 50 (0, 0)) (za BK375.out)) : gb374 ≠ gb375))
          clear HO_5
          clear BK365
          clear BK366
          clear BK375
          clear HB
          have HO_5 := n0_
          have BK365 := n1_
          have BK366 := n2_
          have BK375 := n3_
          have HB := n4_
          have BK374 := n5_
          have GW374 := n6_
          have GE374 := n7_
          have NB365_374 := n8_
          have NB374_365 := n9_
          have NB366_374 := n10_
          have NB374_366 := n11_
          have NB375_374 := n12_
          have NB374_375 := n13_
          clear n0_ n1_ n2_ n3_ n4_ n5_ n6_ n7_ n8_ n9_ n10_ n11_ n12_ n13_
          clear hb hbox hg
          refine hK.out _ _ ⟨HS0_, HS1_, HS2_, HS3_⟩ (fun hHeld => ?_)
          clear hK K
          refine norm_ (a' := ?_) ?_ ?_
          rotate_left
          ·show Act.put _ (some 10) _ = _
           simp only [Act.put, s1, s2, s3, q0b, q0c]
           rfl
          exact norm_ (by simp only [putAll, Act.put, List.setIfInBounds_toArray, List.set_cons_zero, List.set_cons_succ]) (hCont (gb374, gb375) _ ⟨hHeld, (by (with_reducible repeat (first | apply rA | apply rN | apply rD)); exact Kd.R_mono HO_5.out (fun _ hk => ⟨hk.2, hk.1.2⟩)), (za BK365.out), (za BK366.out), (za BK374.out), (za BK375.out), GW374.out, GE374.out, NB365_374.out, NB374_365.out, NB366_374.out, NB374_366.out, NB375_374.out, NB374_375.out, GW375.out, GE375.out, NB365_375.out, NB375_365.out, NB366_375.out, NB375_366.out, (by repeat (first | (with_reducible first | exact HB.out | apply bA | apply bN | apply bD | refine bS ?_ GE365.out | refine bS ?_ GE366.out | refine bS ?_ GE375.out | refine bS ?_ GE374.out) | exact HB.out))⟩)
        rintro ⟨gb374, gb375⟩ w32 ⟨hS_, h0_, h1_, h2_, h3_, h4_, h5_, h6_, h7_, h8_, h9_, h10_, h11_, h12_, h13_, h14_, h15_, h16_, h17_, h18_, h19_⟩
        have n0_ : Aside0 (Kd.R k50 50 w32 w.heap.size (fun k_ => k_ ≠ gb374 ∧ k_ ≠ gb375) (.slice (some ad372) t367.length co29) t367) := ⟨h0_⟩
        have n1_ : Aside0 (w32.heap[gb365]? = some (.cells #[.slice A0_0 l0_0.length c0_0, .bool a0_1] 24 (0, 0))) := ⟨h1_⟩
        have n2_ : Aside0 (w32.heap[gb366]? = some (.cells #[.int .i64 a1_0, .int .i64 a1_1, .int .i64 a1_2, .int .i64 a1_3] 52 (0, 0))) := ⟨h2_⟩
        have n3_ : Aside0 (w32.heap[gb374]? = some (.cells #[.int .i64 0, .int .i64 0] 50 (0, 0))) := ⟨h3_⟩
        have n4_ : Aside0 (w32.heap[gb375]? = some (.cells #[.int .i64 0, .int .i64 0] 50 (0, 0))) := ⟨h4_⟩
        have n5_ : Aside0 (w.heap.size ≤ gb374) := ⟨h5_⟩
        have n6_ : Aside0 (w.heap.size ≤ gb374) := ⟨h6_⟩
        have n7_ : Aside0 (gb365 ≠ gb374) := ⟨h7_⟩
        have n8_ : Aside0 (gb374 ≠ gb365) := ⟨h8_⟩
        have n9_ : Aside0 (gb366 ≠ gb374) := ⟨h9_⟩
        have n10_ : Aside0 (gb374 ≠ gb366) := ⟨h10_⟩
        have n11_ : Aside0 (gb375 ≠ gb374) := ⟨h11_⟩
        have n12_ : Aside0 (gb374 ≠ gb375) := ⟨h12_⟩
        have n13_ : Aside0 (w.heap.size ≤ gb375) := ⟨h13_⟩
        have n14_ : Aside0 (w.heap.size ≤ gb375) := ⟨h14_⟩
        have n15_ : Aside0 (gb365 ≠ gb375) := ⟨h15_⟩
        have n16_ : Aside0 (gb375 ≠ gb365) := ⟨h16_⟩
        have n17_ : Aside0 (gb366 ≠ gb375) := ⟨h17_⟩
        have n18_ : Aside0 (gb375 ≠ gb366) := ⟨h18_⟩
        have n19_ : Aside0 (Below w.heap.size w w32) := ⟨h19_⟩
        clear HO_5
        clear BK365
        clear BK366
        clear HB
        clear h0_ h1_ h2_ h3_ h4_ h5_ h6_ h7_ h8_ h9_ h10_ h11_ h12_ h13_ h14_ h15_ h16_ h17_ h18_ h19_
        have HO_5 := n0_
        have BK365 := n1_
        have BK366 := n2_
        have BK374 := n3_
        have BK375 := n4_
        have GW374 := n5_
        have GE374 := n6_
        have NB365_374 := n7_
        have NB374_365 := n8_
        have NB366_374 := n9_
        have NB374_366 := n10_
        have NB375_374 := n11_
        have NB374_375 := n12_
        have GW375 := n13_
        have GE375 := n14_
        have NB365_375 := n15_
        have NB375_365 := n16_
        have NB366_375 := n17_
        have NB375_366 := n18_
        have HB := n19_
        clear n0_ n1_ n2_ n3_ n4_ n5_ n6_ n7_ n8_ n9_ n10_ n11_ n12_ n13_ n14_ n15_ n16_ n17_ n18_ n19_
        have hHeld : w32.cell? (ad372.add ((x9_1).toNat * 2)) = some (.int .i64 ((q08 t367 x9_1).f0)) ∧ w32.cell? ⟨(ad372.add ((x9_1).toNat * 2)).block, (ad372.add ((x9_1).toNat * 2)).off + 1, none⟩ = some (.int .i64 ((q08 t367 x9_1).f1)) ∧ w32.cell? (ad372.add (((ji17)).toNat * 2)) = some (.int .i64 ((q08 t367 (ji17)).f0)) ∧ w32.cell? ⟨(ad372.add (((ji17)).toNat * 2)).block, (ad372.add (((ji17)).toNat * 2)).off + 1, none⟩ = some (.int .i64 ((q08 t367 (ji17)).f1)) := hS_
        refine norm_ (a' := ?_) ?_ ?_
        rotate_left
        ·simp only [putAll, Act.put, List.setIfInBounds_toArray, List.set_cons_zero, List.set_cons_succ]
         rfl
        refine one_ (i := 11) (N := none) #[true, true, true, true, true, true, true, true, true, true, true, true, false] rfl rfl (q1r HT_.out (by kernel_rfl)) (by decide) (fun K hK => ?_)
        have hs33 : w32.cell? ⟨gb374, 0, none⟩ = some (.int .i64 0) := (q05 BK374.out 0).trans rfl
        have hfs33 := q0m BK374.out 0
        have hns33_0 := NB365_374.out
        have hns33_1 := NB366_374.out
        have hns33_3 := NB375_374.out
        have hms33_0 := NB374_365.out
        have hms33_1 := NB374_366.out
        have hms33_3 := NB374_375.out
        have hs34 : w32.cell? ⟨gb374, 1, none⟩ = some (.int .i64 0) := (q05 BK374.out 1).trans rfl
        have hfs34 := q0m BK374.out 1
        have hns34_0 := NB365_374.out
        have hns34_1 := NB366_374.out
        have hns34_3 := NB375_374.out
        have hms34_0 := NB374_365.out
        have hms34_1 := NB374_366.out
        have hms34_3 := NB374_375.out
        refine skip_ (w1 := ?_) (by rfl) rfl ?_ ?_
        rotate_left
        ·go_simp
         rfl
        refine hK.out _ _ ⟨((q0h (p := ⟨gb374, _, none⟩) (by first | exact Kd.own_blk (Kd.R_away HO_5.out (fun _ hk => hk.1)) | (rw [q07]; exact Kd.own_blk (Kd.R_away HO_5.out (fun _ hk => hk.1))) | (show (Addr.add _ _).block ≠ _; rw [q07]; exact Kd.own_blk (Kd.R_away HO_5.out (fun _ hk => hk.1))) | (dsimp only; exact Kd.own_blk (Kd.R_away HO_5.out (fun _ hk => hk.1)))) _).trans (((q0h (p := ⟨gb374, _, none⟩) (by first | exact Kd.own_blk (Kd.R_away HO_5.out (fun _ hk => hk.1)) | (rw [q07]; exact Kd.own_blk (Kd.R_away HO_5.out (fun _ hk => hk.1))) | (show (Addr.add _ _).block ≠ _; rw [q07]; exact Kd.own_blk (Kd.R_away HO_5.out (fun _ hk => hk.1))) | (dsimp only; exact Kd.own_blk (Kd.R_away HO_5.out (fun _ hk => hk.1)))) _).trans (hHeld.1)))), ((q0h (p := ⟨gb374, _, none⟩) (by first | exact Kd.own_blk (Kd.R_away HO_5.out (fun _ hk => hk.1)) | (rw [q07]; exact Kd.own_blk (Kd.R_away HO_5.out (fun _ hk => hk.1))) | (show (Addr.add _ _).block ≠ _; rw [q07]; exact Kd.own_blk (Kd.R_away HO_5.out (fun _ hk => hk.1))) | (dsimp only; exact Kd.own_blk (Kd.R_away HO_5.out (fun _ hk => hk.1)))) _).trans (((q0h (p := ⟨gb374, _, none⟩) (by first | exact Kd.own_blk (Kd.R_away HO_5.out (fun _ hk => hk.1)) | (rw [q07]; exact Kd.own_blk (Kd.R_away HO_5.out (fun _ hk => hk.1))) | (show (Addr.add _ _).block ≠ _; rw [q07]; exact Kd.own_blk (Kd.R_away HO_5.out (fun _ hk => hk.1))) | (dsimp only; exact Kd.own_blk (Kd.R_away HO_5.out (fun _ hk => hk.1)))) _).trans (hHeld.2.1)))), ((q0h (p := ⟨gb374, _, none⟩) (by first | exact Kd.own_blk (Kd.R_away HO_5.out (fun _ hk => hk.1)) | (rw [q07]; exact Kd.own_blk (Kd.R_away HO_5.out (fun _ hk => hk.1))) | (show (Addr.add _ _).block ≠ _; rw [q07]; exact Kd.own_blk (Kd.R_away HO_5.out (fun _ hk => hk.1))) | (dsimp only; exact Kd.own_blk (Kd.R_away HO_5.out (fun _ hk => hk.1)))) _).trans (((q0h (p := ⟨gb374, _, none⟩) (by first | exact Kd.own_blk (Kd.R_away HO_5.out (fun _ hk => hk.1)) | (rw [q07]; exact Kd.own_blk (Kd.R_away HO_5.out (fun _ hk => hk.1))) | (show (Addr.add _ _).block ≠ _; rw [q07]; exact Kd.own_blk (Kd.R_away HO_5.out (fun _ hk => hk.1))) | (dsimp only; exact Kd.own_blk (Kd.R_away HO_5.out (fun _ hk => hk.1)))) _).trans (hHeld.2.2.1)))), ((q0h (p := ⟨gb374, _, none⟩) (by first | exact Kd.own_blk (Kd.R_away HO_5.out (fun _ hk => hk.1)) | (rw [q07]; exact Kd.own_blk (Kd.R_away HO_5.out (fun _ hk => hk.1))) | (show (Addr.add _ _).block ≠ _; rw [q07]; exact Kd.own_blk (Kd.R_away HO_5.out (fun _ hk => hk.1))) | (dsimp only; exact Kd.own_blk (Kd.R_away HO_5.out (fun _ hk => hk.1)))) _).trans (((q0h (p := ⟨gb374, _, none⟩) (by first | exact Kd.own_blk (Kd.R_away HO_5.out (fun _ hk => hk.1)) | (rw [q07]; exact Kd.own_blk (Kd.R_away HO_5.out (fun _ hk => hk.1))) | (show (Addr.add _ _).block ≠ _; rw [q07]; exact Kd.own_blk (Kd.R_away HO_5.out (fun _ hk => hk.1))) | (dsimp only; exact Kd.own_blk (Kd.R_away HO_5.out (fun _ hk => hk.1)))) _).trans (hHeld.2.2.2))))⟩ (fun hHeld => ?_)
        clear hK K
        refine one_ (i := 12) (N := none) #[true, true, true, true, true, true, true, true, true, true, true, true, true] rfl rfl (q1r HT_.out (by kernel_rfl)) (by decide) (fun K hK => ?_)
        have hs35 : w32.cell? ⟨gb375, 0, none⟩ = some (.int .i64 0) := (q05 BK375.out 0).trans rfl
        have hfs35 := q0m BK375.out 0
        have hns35_0 := NB365_375.out
        have hns35_1 := NB366_375.out
        have hns35_2 := NB374_375.out
        have hms35_0 := NB375_365.out
        have hms35_1 := NB375_366.out
        have hms35_2 := NB375_374.out
        have hs36 : w32.cell? ⟨gb375, 1, none⟩ = some (.int .i64 0) := (q05 BK375.out 1).trans rfl
        have hfs36 := q0m BK375.out 1
        have hns36_0 := NB365_375.out
        have hns36_1 := NB366_375.out
        have hns36_2 := NB374_375.out
        have hms36_0 := NB375_365.out
        have hms36_1 := NB375_366.out
        have hms36_2 := NB375_374.out
        refine skip_ (w1 := ?_) (by rfl) rfl ?_ ?_
        rotate_left
        ·go_simp
         rfl
        refine hK.out _ _ ⟨((q0h (p := ⟨gb375, _, none⟩) (by first | exact Kd.own_blk (Kd.R_away HO_5.out (fun _ hk => hk.2)) | (rw [q07]; exact Kd.own_blk (Kd.R_away HO_5.out (fun _ hk => hk.2))) | (show (Addr.add _ _).block ≠ _; rw [q07]; exact Kd.own_blk (Kd.R_away HO_5.out (fun _ hk => hk.2))) | (dsimp only; exact Kd.own_blk (Kd.R_away HO_5.out (fun _ hk => hk.2)))) _).trans (((q0h (p := ⟨gb375, _, none⟩) (by first | exact Kd.own_blk (Kd.R_away HO_5.out (fun _ hk => hk.2)) | (rw [q07]; exact Kd.own_blk (Kd.R_away HO_5.out (fun _ hk => hk.2))) | (show (Addr.add _ _).block ≠ _; rw [q07]; exact Kd.own_blk (Kd.R_away HO_5.out (fun _ hk => hk.2))) | (dsimp only; exact Kd.own_blk (Kd.R_away HO_5.out (fun _ hk => hk.2)))) _).trans (hHeld.1)))), ((q0h (p := ⟨gb375, _, none⟩) (by first | exact Kd.own_blk (Kd.R_away HO_5.out (fun _ hk => hk.2)) | (rw [q07]; exact Kd.own_blk (Kd.R_away HO_5.out (fun _ hk => hk.2))) | (show (Addr.add _ _).block ≠ _; rw [q07]; exact Kd.own_blk (Kd.R_away HO_5.out (fun _ hk => hk.2))) | (dsimp only; exact Kd.own_blk (Kd.R_away HO_5.out (fun _ hk => hk.2)))) _).trans (((q0h (p := ⟨gb375, _, none⟩) (by first | exact Kd.own_blk (Kd.R_away HO_5.out (fun _ hk => hk.2)) | (rw [q07]; exact Kd.own_blk (Kd.R_away HO_5.out (fun _ hk => hk.2))) | (show (Addr.add _ _).block ≠ _; rw [q07]; exact Kd.own_blk (Kd.R_away HO_5.out (fun _ hk => hk.2))) | (dsimp only; exact Kd.own_blk (Kd.R_away HO_5.out (fun _ hk => hk.2)))) _).trans (hHeld.2.1)))), ((q0h (p := ⟨gb375, _, none⟩) (by first | exact Kd.own_blk (Kd.R_away HO_5.out (fun _ hk => hk.2)) | (rw [q07]; exact Kd.own_blk (Kd.R_away HO_5.out (fun _ hk => hk.2))) | (show (Addr.add _ _).block ≠ _; rw [q07]; exact Kd.own_blk (Kd.R_away HO_5.out (fun _ hk => hk.2))) | (dsimp only; exact Kd.own_blk (Kd.R_away HO_5.out (fun _ hk => hk.2)))) _).trans (((q0h (p := ⟨gb375, _, none⟩) (by first | exact Kd.own_blk (Kd.R_away HO_5.out (fun _ hk => hk.2)) | (rw [q07]; exact Kd.own_blk (Kd.R_away HO_5.out (fun _ hk => hk.2))) | (show (Addr.add _ _).block ≠ _; rw [q07]; exact Kd.own_blk (Kd.R_away HO_5.out (fun _ hk => hk.2))) | (dsimp only; exact Kd.own_blk (Kd.R_away HO_5.out (fun _ hk => hk.2)))) _).trans (hHeld.2.2.1)))), ((q0h (p := ⟨gb375, _, none⟩) (by first | exact Kd.own_blk (Kd.R_away HO_5.out (fun _ hk => hk.2)) | (rw [q07]; exact Kd.own_blk (Kd.R_away HO_5.out (fun _ hk => hk.2))) | (show (Addr.add _ _).block ≠ _; rw [q07]; exact Kd.own_blk (Kd.R_away HO_5.out (fun _ hk => hk.2))) | (dsimp only; exact Kd.own_blk (Kd.R_away HO_5.out (fun _ hk => hk.2)))) _).trans (((q0h (p := ⟨gb375, _, none⟩) (by first | exact Kd.own_blk (Kd.R_away HO_5.out (fun _ hk => hk.2)) | (rw [q07]; exact Kd.own_blk (Kd.R_away HO_5.out (fun _ hk => hk.2))) | (show (Addr.add _ _).block ≠ _; rw [q07]; exact Kd.own_blk (Kd.R_away HO_5.out (fun _ hk => hk.2))) | (dsimp only; exact Kd.own_blk (Kd.R_away HO_5.out (fun _ hk => hk.2)))) _).trans (hHeld.2.2.2))))⟩ (fun hHeld => ?_)
        clear hK K
        refine done_ (q1s HT_.out (by kernel_rfl)) ?_
        have H := HQ_.out
        clear HQ_
        by_cases c20 : ((q08 t367 x9_1).f0) = ((q08 t367 (ji17)).f0)
        ·rw [if_pos c20] at H
         have c20b0 : (((q08 t367 x9_1).f0) == ((q08 t367 (ji17)).f0)) = true := beq_iff_eq.mpr c20
         have c20b1 : (((q08 t367 x9_1).f0) != ((q08 t367 (ji17)).f0)) = false := bne_eq_false_iff_eq.mpr c20
         clear c20
         by_cases c21 : 0 ≤ ((q08 t367 x9_1).f0)
         ·rw [if_pos c21] at H
          have c21b0 : decide (0 ≤ ((q08 t367 x9_1).f0)) = true := decide_eq_true c21
          clear c21
          by_cases c22 : ((q08 t367 x9_1).f0) < (l0_0.length : Int)
          ·rw [if_pos c22] at H
           have c22b0 : decide (((q08 t367 x9_1).f0) < (l0_0.length : Int)) = true := decide_eq_true c22
           clear c22
           by_cases c23 : ((q00 l0_0 ((q08 t367 x9_1).f0)).f0) = 3
           ·rw [if_pos c23] at H
            have c23b0 : (((q00 l0_0 ((q08 t367 x9_1).f0)).f0) == 3) = true := beq_iff_eq.mpr c23
            have c23b1 : (((q00 l0_0 ((q08 t367 x9_1).f0)).f0) != 3) = false := bne_eq_false_iff_eq.mpr c23
            clear c23
            by_cases c24 : 0 ≤ ((q08 t367 x9_1).f1)
            ·rw [if_pos c24] at H
             have c24b0 := eq_true c24
             have c24b1 : decide (0 ≤ ((q08 t367 x9_1).f1)) = true := decide_eq_true c24
             clear c24
             by_cases c25 : ((q08 t367 x9_1).f1) ≤ ((q08 t367 (ji17)).f1)
             ·rw [if_pos c25] at H
              have c25b0 := eq_true c25
              have c25b1 : decide (((q08 t367 x9_1).f1) ≤ ((q08 t367 (ji17)).f1)) = true := decide_eq_true c25
              clear c25
              by_cases c26 : ((q08 t367 (ji17)).f1) ≤ (((q00 l0_0 ((q08 t367 x9_1).f0)).f3).size : Int)
              ·rw [if_pos c26] at H
               have c26b0 := eq_true c26
               have c26b1 : decide (((q08 t367 (ji17)).f1) ≤ (((q00 l0_0 ((q08 t367 x9_1).f0)).f3).size : Int)) = true := decide_eq_true c26
               clear c26
               by_cases c27 : x8_1.size + (((q00 l0_0 ((q08 t367 x9_1).f0)).f3).extract (((q08 t367 x9_1).f1) : Int).toNat (((q08 t367 (ji17)).f1) : Int).toNat).size ≤ 9223372036854775807
               ·rw [if_pos c27] at H
                have c27b0 := eq_true c27
                have c27b1 : decide (x8_1.size + (((q00 l0_0 ((q08 t367 x9_1).f0)).f3).extract (((q08 t367 x9_1).f1) : Int).toNat (((q08 t367 (ji17)).f1) : Int).toNat).size ≤ 9223372036854775807) = true := decide_eq_true c27
                try have c27b2 : (9223372036854775807 < x8_1.size + (((q00 l0_0 ((q08 t367 x9_1).f0)).f3).extract (((q08 t367 x9_1).f1) : Int).toNat (((q08 t367 (ji17)).f1) : Int).toNat).size) = False := eq_false (Nat.not_lt.2 c27)
                have H' := aS H
                clear H
                have hnb37 := NB374_365.out
                have hnc37 := NB365_374.out
                have hnb38 := NB374_366.out
                have hnc38 := NB366_374.out
                have hnb39 := NB374_375.out
                have hnc39 := NB375_374.out
                have hcz40_0 : w32.cell? ⟨gb374, 0, none⟩ = some (.int .i64 0) := (q05 BK374.out 0).trans rfl
                have hcz40_1 : w32.cell? ⟨gb374, 1, none⟩ = some (.int .i64 0) := (q05 BK374.out 1).trans rfl
                have hfz40_0 := q0m BK374.out 0
                have hfz40_1 := q0m BK374.out 1
                have hnb41 := NB375_365.out
                have hnc41 := NB365_375.out
                have hnb42 := NB375_366.out
                have hnc42 := NB366_375.out
                have hcz43_0 : w32.cell? ⟨gb375, 0, none⟩ = some (.int .i64 0) := (q05 BK375.out 0).trans rfl
                have hcz43_1 : w32.cell? ⟨gb375, 1, none⟩ = some (.int .i64 0) := (q05 BK375.out 1).trans rfl
                have hfz43_0 := q0m BK375.out 0
                have hfz43_1 := q0m BK375.out 1
                have hnb44 := NB365_366.out
                have hnc44 := NB366_365.out
                have hcz45_0 : w32.cell? ⟨gb365, 0, none⟩ = some (.slice A0_0 l0_0.length c0_0) := (q05 BK365.out 0).trans rfl
                have hcz45_1 : w32.cell? ⟨gb365, 1, none⟩ = some (.bool a0_1) := (q05 BK365.out 1).trans rfl
                have hfz45_0 := q0m BK365.out 0
                have hfz45_1 := q0m BK365.out 1
                have p376 : 0 ≤ (((q08 t367 x9_1).f0) : Int) := od zc
                have q376 : ((q08 t367 x9_1).f0) < (l0_0.length : Int) := od zc
                obtain ⟨ad376, A376_2, c376_2, A376_5, c376_5, e376, hx376_0, hx376_1, hx376_2, hx376_3, hx376_4, hx376_5, hl376_2, hi376_2, hl376_5, hi376_5⟩ := at_T43 HR0_0.out ((q08 t367 x9_1).f0) p376 q376
                cases e376
                have hn376_0 : ad376.block ≠ gb374 := Nat.ne_of_lt (Nat.lt_of_lt_of_le (by have := World.block_lt_of_cell? _ _ hx376_0; first | rwa [q07] at this | exact this) GW374.out)
                have hn376_1 : ad376.block ≠ gb374 := Nat.ne_of_lt (Nat.lt_of_lt_of_le (by have := World.block_lt_of_cell? _ _ hx376_0; first | rwa [q07] at this | exact this) GW374.out)
                have hn376_2 : ad376.block ≠ gb375 := Nat.ne_of_lt (Nat.lt_of_lt_of_le (by have := World.block_lt_of_cell? _ _ hx376_0; first | rwa [q07] at this | exact this) GW375.out)
                have hn376_3 : ad376.block ≠ gb375 := Nat.ne_of_lt (Nat.lt_of_lt_of_le (by have := World.block_lt_of_cell? _ _ hx376_0; first | rwa [q07] at this | exact this) GW375.out)
                replace hx376_0 := (HB.out.cell (World.block_lt_of_cell? w _ hx376_0)).trans hx376_0
                replace hx376_1 := (HB.out.cell (World.block_lt_of_cell? w _ hx376_1)).trans hx376_1
                replace hx376_2 := (HB.out.cell (World.block_lt_of_cell? w _ hx376_2)).trans hx376_2
                replace hx376_3 := (HB.out.cell (World.block_lt_of_cell? w _ hx376_3)).trans hx376_3
                replace hx376_4 := (HB.out.cell (World.block_lt_of_cell? w _ hx376_4)).trans hx376_4
                replace hx376_5 := (HB.out.cell (World.block_lt_of_cell? w _ hx376_5)).trans hx376_5
                have HR376_2 := aS hi376_2
                have HC376_2 := aS hl376_2
                clear hi376_2 hl376_2
                have HR376_5 := aS hi376_5
                have HC376_5 := aS hl376_5
                clear hi376_5 hl376_5
                replace hx376_0 := (q0h (p := ⟨gb374, 0, none⟩) (by first | (rw [q07]; exact hn376_0) | (show (Addr.add _ _).block ≠ _; rw [q07]; exact hn376_0) | exact hn376_0) (.int .i64 ((q08 t367 x9_1).f0))).trans hx376_0
                replace hx376_1 := (q0h (p := ⟨gb374, 0, none⟩) (by first | (rw [q07]; exact hn376_0) | (show (Addr.add _ _).block ≠ _; rw [q07]; exact hn376_0) | exact hn376_0) (.int .i64 ((q08 t367 x9_1).f0))).trans hx376_1
                replace hx376_2 := (q0h (p := ⟨gb374, 0, none⟩) (by first | (rw [q07]; exact hn376_0) | (show (Addr.add _ _).block ≠ _; rw [q07]; exact hn376_0) | exact hn376_0) (.int .i64 ((q08 t367 x9_1).f0))).trans hx376_2
                replace hx376_3 := (q0h (p := ⟨gb374, 0, none⟩) (by first | (rw [q07]; exact hn376_0) | (show (Addr.add _ _).block ≠ _; rw [q07]; exact hn376_0) | exact hn376_0) (.int .i64 ((q08 t367 x9_1).f0))).trans hx376_3
                replace hx376_4 := (q0h (p := ⟨gb374, 0, none⟩) (by first | (rw [q07]; exact hn376_0) | (show (Addr.add _ _).block ≠ _; rw [q07]; exact hn376_0) | exact hn376_0) (.int .i64 ((q08 t367 x9_1).f0))).trans hx376_4
                replace hx376_5 := (q0h (p := ⟨gb374, 0, none⟩) (by first | (rw [q07]; exact hn376_0) | (show (Addr.add _ _).block ≠ _; rw [q07]; exact hn376_0) | exact hn376_0) (.int .i64 ((q08 t367 x9_1).f0))).trans hx376_5
                replace hx376_0 := (q0h (p := ⟨gb374, 1, none⟩) (by first | (rw [q07]; exact hn376_1) | (show (Addr.add _ _).block ≠ _; rw [q07]; exact hn376_1) | exact hn376_1) (.int .i64 ((q08 t367 x9_1).f1))).trans hx376_0
                replace hx376_1 := (q0h (p := ⟨gb374, 1, none⟩) (by first | (rw [q07]; exact hn376_1) | (show (Addr.add _ _).block ≠ _; rw [q07]; exact hn376_1) | exact hn376_1) (.int .i64 ((q08 t367 x9_1).f1))).trans hx376_1
                replace hx376_2 := (q0h (p := ⟨gb374, 1, none⟩) (by first | (rw [q07]; exact hn376_1) | (show (Addr.add _ _).block ≠ _; rw [q07]; exact hn376_1) | exact hn376_1) (.int .i64 ((q08 t367 x9_1).f1))).trans hx376_2
                replace hx376_3 := (q0h (p := ⟨gb374, 1, none⟩) (by first | (rw [q07]; exact hn376_1) | (show (Addr.add _ _).block ≠ _; rw [q07]; exact hn376_1) | exact hn376_1) (.int .i64 ((q08 t367 x9_1).f1))).trans hx376_3
                replace hx376_4 := (q0h (p := ⟨gb374, 1, none⟩) (by first | (rw [q07]; exact hn376_1) | (show (Addr.add _ _).block ≠ _; rw [q07]; exact hn376_1) | exact hn376_1) (.int .i64 ((q08 t367 x9_1).f1))).trans hx376_4
                replace hx376_5 := (q0h (p := ⟨gb374, 1, none⟩) (by first | (rw [q07]; exact hn376_1) | (show (Addr.add _ _).block ≠ _; rw [q07]; exact hn376_1) | exact hn376_1) (.int .i64 ((q08 t367 x9_1).f1))).trans hx376_5
                replace hx376_0 := (q0h (p := ⟨gb375, 0, none⟩) (by first | (rw [q07]; exact hn376_2) | (show (Addr.add _ _).block ≠ _; rw [q07]; exact hn376_2) | exact hn376_2) (.int .i64 ((q08 t367 (ji17)).f0))).trans hx376_0
                replace hx376_1 := (q0h (p := ⟨gb375, 0, none⟩) (by first | (rw [q07]; exact hn376_2) | (show (Addr.add _ _).block ≠ _; rw [q07]; exact hn376_2) | exact hn376_2) (.int .i64 ((q08 t367 (ji17)).f0))).trans hx376_1
                replace hx376_2 := (q0h (p := ⟨gb375, 0, none⟩) (by first | (rw [q07]; exact hn376_2) | (show (Addr.add _ _).block ≠ _; rw [q07]; exact hn376_2) | exact hn376_2) (.int .i64 ((q08 t367 (ji17)).f0))).trans hx376_2
                replace hx376_3 := (q0h (p := ⟨gb375, 0, none⟩) (by first | (rw [q07]; exact hn376_2) | (show (Addr.add _ _).block ≠ _; rw [q07]; exact hn376_2) | exact hn376_2) (.int .i64 ((q08 t367 (ji17)).f0))).trans hx376_3
                replace hx376_4 := (q0h (p := ⟨gb375, 0, none⟩) (by first | (rw [q07]; exact hn376_2) | (show (Addr.add _ _).block ≠ _; rw [q07]; exact hn376_2) | exact hn376_2) (.int .i64 ((q08 t367 (ji17)).f0))).trans hx376_4
                replace hx376_5 := (q0h (p := ⟨gb375, 0, none⟩) (by first | (rw [q07]; exact hn376_2) | (show (Addr.add _ _).block ≠ _; rw [q07]; exact hn376_2) | exact hn376_2) (.int .i64 ((q08 t367 (ji17)).f0))).trans hx376_5
                replace hx376_0 := (q0h (p := ⟨gb375, 1, none⟩) (by first | (rw [q07]; exact hn376_3) | (show (Addr.add _ _).block ≠ _; rw [q07]; exact hn376_3) | exact hn376_3) (.int .i64 ((q08 t367 (ji17)).f1))).trans hx376_0
                replace hx376_1 := (q0h (p := ⟨gb375, 1, none⟩) (by first | (rw [q07]; exact hn376_3) | (show (Addr.add _ _).block ≠ _; rw [q07]; exact hn376_3) | exact hn376_3) (.int .i64 ((q08 t367 (ji17)).f1))).trans hx376_1
                replace hx376_2 := (q0h (p := ⟨gb375, 1, none⟩) (by first | (rw [q07]; exact hn376_3) | (show (Addr.add _ _).block ≠ _; rw [q07]; exact hn376_3) | exact hn376_3) (.int .i64 ((q08 t367 (ji17)).f1))).trans hx376_2
                replace hx376_3 := (q0h (p := ⟨gb375, 1, none⟩) (by first | (rw [q07]; exact hn376_3) | (show (Addr.add _ _).block ≠ _; rw [q07]; exact hn376_3) | exact hn376_3) (.int .i64 ((q08 t367 (ji17)).f1))).trans hx376_3
                replace hx376_4 := (q0h (p := ⟨gb375, 1, none⟩) (by first | (rw [q07]; exact hn376_3) | (show (Addr.add _ _).block ≠ _; rw [q07]; exact hn376_3) | exact hn376_3) (.int .i64 ((q08 t367 (ji17)).f1))).trans hx376_4
                replace hx376_5 := (q0h (p := ⟨gb375, 1, none⟩) (by first | (rw [q07]; exact hn376_3) | (show (Addr.add _ _).block ≠ _; rw [q07]; exact hn376_3) | exact hn376_3) (.int .i64 ((q08 t367 (ji17)).f1))).trans hx376_5
                clear hn376_0
                clear hn376_1
                clear hn376_2
                clear hn376_3
                replace p376 := eq_true p376
                replace q376 := eq_true q376
                try go_wp2
                have n0_ : Aside0 (Kd.R k50 50 ((((w32.setCell ⟨gb374, 0, none⟩ (.int .i64 ((q08 t367 x9_1).f0))).setCell ⟨gb374, 1, none⟩ (.int .i64 ((q08 t367 x9_1).f1))).setCell ⟨gb375, 0, none⟩ (.int .i64 ((q08 t367 (ji17)).f0))).setCell ⟨gb375, 1, none⟩ (.int .i64 ((q08 t367 (ji17)).f1))) w.heap.size (fun k_ => k_ ≠ gb374 ∧ k_ ≠ gb375) (.slice (some ad372) t367.length co29) t367) := ⟨by (with_reducible repeat (first | apply rA | apply rN | apply rD)); exact Kd.R_mono (Kd.R_far (p := ⟨gb375, 1, none⟩) (Kd.R_far (p := ⟨gb375, 0, none⟩) (Kd.R_far (p := ⟨gb374, 1, none⟩) (Kd.R_far (p := ⟨gb374, 0, none⟩) (Kd.R_mono (Kd.R_mono HO_5.out (fun k_ hk => (⟨hk, hk.1⟩ : _ ∧ k_ ≠ gb374))) (fun k_ hk => (⟨hk, hk.1.2⟩ : _ ∧ k_ ≠ gb375))) (fun _ hk => hk.1.2) (.int .i64 ((q08 t367 x9_1).f0))) (fun _ hk => hk.1.2) (.int .i64 ((q08 t367 x9_1).f1))) (fun _ hk => hk.2) (.int .i64 ((q08 t367 (ji17)).f0))) (fun _ hk => hk.2) (.int .i64 ((q08 t367 (ji17)).f1))) (fun _ hk => ⟨hk.1.1.1, hk.1.1.2⟩)⟩
                have n1_ : Aside0 (((((w32.setCell ⟨gb374, 0, none⟩ (.int .i64 ((q08 t367 x9_1).f0))).setCell ⟨gb374, 1, none⟩ (.int .i64 ((q08 t367 x9_1).f1))).setCell ⟨gb375, 0, none⟩ (.int .i64 ((q08 t367 (ji17)).f0))).setCell ⟨gb375, 1, none⟩ (.int .i64 ((q08 t367 (ji17)).f1))).heap[gb365]? = some (.cells #[.slice (some ad376) l0_0.length c0_0, .bool a0_1] 24 (0, 0))) := ⟨by (with_reducible repeat (first | refine kN ?_ _ | refine kD ?_ | refine kA ?_ _)); refine q0e ?_ NB365_375.out _; (with_reducible repeat (first | refine kN ?_ _ | refine kD ?_ | refine kA ?_ _)); refine q0e ?_ NB365_375.out _; (with_reducible repeat (first | refine kN ?_ _ | refine kD ?_ | refine kA ?_ _)); refine q0e ?_ NB365_374.out _; (with_reducible repeat (first | refine kN ?_ _ | refine kD ?_ | refine kA ?_ _)); refine q0e ?_ NB365_374.out _; (with_reducible repeat (first | refine kN ?_ _ | refine kD ?_ | refine kA ?_ _)); exact BK365.out⟩
                have n2_ : Aside0 (((((w32.setCell ⟨gb374, 0, none⟩ (.int .i64 ((q08 t367 x9_1).f0))).setCell ⟨gb374, 1, none⟩ (.int .i64 ((q08 t367 x9_1).f1))).setCell ⟨gb375, 0, none⟩ (.int .i64 ((q08 t367 (ji17)).f0))).setCell ⟨gb375, 1, none⟩ (.int .i64 ((q08 t367 (ji17)).f1))).heap[gb366]? = some (.cells #[.int .i64 a1_0, .int .i64 a1_1, .int .i64 a1_2, .int .i64 a1_3] 52 (0, 0))) := ⟨by (with_reducible repeat (first | refine kN ?_ _ | refine kD ?_ | refine kA ?_ _)); refine q0e ?_ NB366_375.out _; (with_reducible repeat (first | refine kN ?_ _ | refine kD ?_ | refine kA ?_ _)); refine q0e ?_ NB366_375.out _; (with_reducible repeat (first | refine kN ?_ _ | refine kD ?_ | refine kA ?_ _)); refine q0e ?_ NB366_374.out _; (with_reducible repeat (first | refine kN ?_ _ | refine kD ?_ | refine kA ?_ _)); refine q0e ?_ NB366_374.out _; (with_reducible repeat (first | refine kN ?_ _ | refine kD ?_ | refine kA ?_ _)); exact BK366.out⟩
                have n3_ : Aside0 (((((w32.setCell ⟨gb374, 0, none⟩ (.int .i64 ((q08 t367 x9_1).f0))).setCell ⟨gb374, 1, none⟩ (.int .i64 ((q08 t367 x9_1).f1))).setCell ⟨gb375, 0, none⟩ (.int .i64 ((q08 t367 (ji17)).f0))).setCell ⟨gb375, 1, none⟩ (.int .i64 ((q08 t367 (ji17)).f1))).heap[gb374]? = some (.cells #[.int .i64 ((q08 t367 x9_1).f0), .int .i64 ((q08 t367 x9_1).f1)] 50 (0, 0))) := ⟨by (with_reducible repeat (first | refine kN ?_ _ | refine kD ?_ | refine kA ?_ _)); refine q0e ?_ NB374_375.out _; (with_reducible repeat (first | refine kN ?_ _ | refine kD ?_ | refine kA ?_ _)); refine q0e ?_ NB374_375.out _; (with_reducible repeat (first | refine kN ?_ _ | refine kD ?_ | refine kA ?_ _)); refine q0l (cs := #[.int .i64 ((q08 t367 x9_1).f0), .int .i64 0]) ?_ 1 _ rfl; (with_reducible repeat (first | refine kN ?_ _ | refine kD ?_ | refine kA ?_ _)); refine q0l (cs := #[.int .i64 0, .int .i64 0]) ?_ 0 _ rfl; (with_reducible repeat (first | refine kN ?_ _ | refine kD ?_ | refine kA ?_ _)); exact BK374.out⟩
                have n4_ : Aside0 (((((w32.setCell ⟨gb374, 0, none⟩ (.int .i64 ((q08 t367 x9_1).f0))).setCell ⟨gb374, 1, none⟩ (.int .i64 ((q08 t367 x9_1).f1))).setCell ⟨gb375, 0, none⟩ (.int .i64 ((q08 t367 (ji17)).f0))).setCell ⟨gb375, 1, none⟩ (.int .i64 ((q08 t367 (ji17)).f1))).heap[gb375]? = some (.cells #[.int .i64 ((q08 t367 (ji17)).f0), .int .i64 ((q08 t367 (ji17)).f1)] 50 (0, 0))) := ⟨by (with_reducible repeat (first | refine kN ?_ _ | refine kD ?_ | refine kA ?_ _)); refine q0l (cs := #[.int .i64 ((q08 t367 (ji17)).f0), .int .i64 0]) ?_ 1 _ rfl; (with_reducible repeat (first | refine kN ?_ _ | refine kD ?_ | refine kA ?_ _)); refine q0l (cs := #[.int .i64 0, .int .i64 0]) ?_ 0 _ rfl; (with_reducible repeat (first | refine kN ?_ _ | refine kD ?_ | refine kA ?_ _)); refine q0e ?_ NB375_374.out _; (with_reducible repeat (first | refine kN ?_ _ | refine kD ?_ | refine kA ?_ _)); refine q0e ?_ NB375_374.out _; (with_reducible repeat (first | refine kN ?_ _ | refine kD ?_ | refine kA ?_ _)); exact BK375.out⟩
                have n5_ : Aside0 (Below w.heap.size w ((((w32.setCell ⟨gb374, 0, none⟩ (.int .i64 ((q08 t367 x9_1).f0))).setCell ⟨gb374, 1, none⟩ (.int .i64 ((q08 t367 x9_1).f1))).setCell ⟨gb375, 0, none⟩ (.int .i64 ((q08 t367 (ji17)).f0))).setCell ⟨gb375, 1, none⟩ (.int .i64 ((q08 t367 (ji17)).f1)))) := ⟨by repeat (first | (with_reducible first | exact HB.out | apply bA | apply bN | apply bD | refine bS ?_ GE365.out | refine bS ?_ GE366.out | refine bS ?_ GE374.out | refine bS ?_ GE375.out) | exact HB.out)⟩
                (try clear HO_5)
                (try clear BK365)
                (try clear BK366)
                (try clear BK374)
                (try clear BK375)
                (try clear HB)
                generalize ((((w32.setCell ⟨gb374, 0, none⟩ (.int .i64 ((q08 t367 x9_1).f0))).setCell ⟨gb374, 1, none⟩ (.int .i64 ((q08 t367 x9_1).f1))).setCell ⟨gb375, 0, none⟩ (.int .i64 ((q08 t367 (ji17)).f0))).setCell ⟨gb375, 1, none⟩ (.int .i64 ((q08 t367 (ji17)).f1))) = w46 at n0_ n1_ n2_ n3_ n4_ n5_ ⊢
                have HO_5 := n0_
                have BK365 := n1_
                have BK366 := n2_
                have BK374 := n3_
                have BK375 := n4_
                have HB := n5_
                clear n0_ n1_ n2_ n3_ n4_ n5_
                have n0_ := aS (Kd.R_drew HO_5.out)
                have n1_ := aS (q0r BK365.out)
                have n2_ := aS (q0r BK366.out)
                have n3_ := aS (q0r BK374.out)
                have n4_ := aS (q0r BK375.out)
                have n5_ := aS (q0t HB.out)
                clear HO_5
                clear BK365
                clear BK366
                clear BK374
                clear BK375
                clear HB
                have HO_5 := n0_
                have BK365 := n1_
                have BK366 := n2_
                have BK374 := n3_
                have BK375 := n4_
                have HB := n5_
                clear n0_ n1_ n2_ n3_ n4_ n5_
                have p377 : 0 ≤ (((q08 t367 x9_1).f0) : Int) := od zc
                have q377 : ((q08 t367 x9_1).f0) < (l0_0.length : Int) := od zc
                obtain ⟨ad377, A377_2, c377_2, A377_5, c377_5, e377, hx377_0, hx377_1, hx377_2, hx377_3, hx377_4, hx377_5, hl377_2, hi377_2, hl377_5, hi377_5⟩ := at_T43 HR0_0.out ((q08 t367 x9_1).f0) p377 q377
                have hw377_5 := hx377_5
                have hw377_4 := hx377_4
                have hw377_3 := hx377_3
                have hw377_2 := hx377_2
                have hw377_1 := hx377_1
                have hw377_0 := hx377_0
                obtain rfl : ad376 = ad377 := (by injection e377)
                replace hx377_0 := (HB.out.cell (World.block_lt_of_cell? w _ hx377_0)).trans hx377_0
                replace hx377_1 := (HB.out.cell (World.block_lt_of_cell? w _ hx377_1)).trans hx377_1
                replace hx377_2 := (HB.out.cell (World.block_lt_of_cell? w _ hx377_2)).trans hx377_2
                replace hx377_3 := (HB.out.cell (World.block_lt_of_cell? w _ hx377_3)).trans hx377_3
                replace hx377_4 := (HB.out.cell (World.block_lt_of_cell? w _ hx377_4)).trans hx377_4
                replace hx377_5 := (HB.out.cell (World.block_lt_of_cell? w _ hx377_5)).trans hx377_5
                have HR377_2 := aS hi377_2
                have HC377_2 := aS hl377_2
                clear hi377_2 hl377_2
                have HR377_5 := aS hi377_5
                have HC377_5 := aS hl377_5
                clear hi377_5 hl377_5
                replace p377 := eq_true p377
                replace q377 := eq_true q377
                have c27s : (9223372036854775807 < x8_1.size + ((q08 t367 ji17).f1.toNat - (q08 t367 x9_1).f1.toNat)) = False := eq_false (Nat.not_lt.2 (by have h_ := of_eq_true c27b0; have g_ := of_eq_true c26b0; rw [ByteArray.size_extract] at h_; omega))
                refine start_ (n := 15) (S := fun w' => w'.cell? ⟨gb365, 0, none⟩ = some (.slice (some ad376) l0_0.length c0_0) ∧ w'.cell? ⟨gb365, 1, none⟩ = some (.bool a0_1) ∧ w'.cell? ⟨gb374, 0, none⟩ = some (.int .i64 ((q08 t367 x9_1).f0)) ∧ w'.cell? ⟨gb374, 1, none⟩ = some (.int .i64 ((q08 t367 x9_1).f1)) ∧ w'.cell? ⟨gb375, 0, none⟩ = some (.int .i64 ((q08 t367 (ji17)).f0)) ∧ w'.cell? ⟨gb375, 1, none⟩ = some (.int .i64 ((q08 t367 (ji17)).f1)) ∧ w'.cell? (ad376.add ((((q08 t367 x9_1).f0)).toNat * 6)) = some (.int .i64 ((q00 l0_0 ((q08 t367 x9_1).f0)).f0)) ∧ w'.cell? ⟨(ad376.add ((((q08 t367 x9_1).f0)).toNat * 6)).block, (ad376.add ((((q08 t367 x9_1).f0)).toNat * 6)).off + 1, none⟩ = some (.string ((q00 l0_0 ((q08 t367 x9_1).f0)).f1)) ∧ w'.cell? ⟨(ad376.add ((((q08 t367 x9_1).f0)).toNat * 6)).block, (ad376.add ((((q08 t367 x9_1).f0)).toNat * 6)).off + 2, none⟩ = some (.slice A377_2 ((q00 l0_0 ((q08 t367 x9_1).f0)).f2).length c377_2) ∧ w'.cell? ⟨(ad376.add ((((q08 t367 x9_1).f0)).toNat * 6)).block, (ad376.add ((((q08 t367 x9_1).f0)).toNat * 6)).off + 3, none⟩ = some (.string ((q00 l0_0 ((q08 t367 x9_1).f0)).f3)) ∧ w'.cell? ⟨(ad376.add ((((q08 t367 x9_1).f0)).toNat * 6)).block, (ad376.add ((((q08 t367 x9_1).f0)).toNat * 6)).off + 4, none⟩ = some (.int .i64 ((q00 l0_0 ((q08 t367 x9_1).f0)).f4)) ∧ w'.cell? ⟨(ad376.add ((((q08 t367 x9_1).f0)).toNat * 6)).block, (ad376.add ((((q08 t367 x9_1).f0)).toNat * 6)).off + 5, none⟩ = some (.slice A377_5 ((q00 l0_0 ((q08 t367 x9_1).f0)).f5).length c377_5)) (ds := []) #[false, false, false, false, false, false, false, false, false, false, false, false, false, false, false] (by kernel_rfl) rfl rfl ⟨(q05 BK365.out 0).trans rfl, (q05 BK365.out 1).trans rfl, (q05 BK374.out 0).trans rfl, (q05 BK374.out 1).trans rfl, (q05 BK375.out 0).trans rfl, (q05 BK375.out 1).trans rfl, ((HB.out.cell (World.block_lt_of_cell? w _ hw377_0)).trans hw377_0), ((HB.out.cell (World.block_lt_of_cell? w _ hw377_1)).trans hw377_1), ((HB.out.cell (World.block_lt_of_cell? w _ hw377_2)).trans hw377_2), ((HB.out.cell (World.block_lt_of_cell? w _ hw377_3)).trans hw377_3), ((HB.out.cell (World.block_lt_of_cell? w _ hw377_4)).trans hw377_4), ((HB.out.cell (World.block_lt_of_cell? w _ hw377_5)).trans hw377_5)⟩ (fun hHeld => ?_); refine q1a clerestoryref1_SpanText.tab9 clerestoryref1_SpanText.bits9 (fun HT_ HW_ => ?_)
                generalize w46.drew = w47 at HO_5 BK365 BK366 BK374 BK375 HB HR377_2 HR377_5 hx377_0 hx377_1 hx377_2 hx377_3 hx377_4 hx377_5 hHeld ⊢
                refine q0j (i := 0) (N := some 52) (v := ?_) (a' := ?_) #[true, false, false, false, false, false, false, false, false, false, false, false, false, false, false] rfl rfl (q0d HT_.out (by kernel_rfl)) (fun _ _ _ h => h) (Or.inl ⟨by rfl, ?_⟩) ?_ ?_
                rotate_left
                ·intro w'
                 go_simp
                 with_reducible rfl
                rotate_left
                ·simp only [Act.put, s1, s2, s3, q0b, q0c]
                 rfl
                refine q0j (i := 1) (N := some 53) (v := ?_) (a' := ?_) #[true, true, false, false, false, false, false, false, false, false, false, false, false, false, false] rfl rfl (q0d HT_.out (by kernel_rfl)) (fun _ _ _ h => h) (Or.inl ⟨by rfl, ?_⟩) ?_ ?_
                rotate_left
                ·intro w'
                 go_simp
                 with_reducible rfl
                rotate_left
                ·simp only [Act.put, s1, s2, s3, q0b, q0c]
                 rfl
                refine q0j (i := 3) (N := some 55) (v := ?_) (a' := ?_) #[true, true, false, true, false, false, false, false, false, false, false, false, false, false, false] rfl rfl (q0d HT_.out (by kernel_rfl)) (fun _ _ _ h => h) (Or.inl ⟨by rfl, ?_⟩) ?_ ?_
                rotate_left
                ·intro w'
                 go_simp
                 with_reducible rfl
                rotate_left
                ·simp only [Act.put, s1, s2, s3, q0b, q0c]
                 rfl
                refine q0j (i := 8) (N := some 60) (v := ?_) (a' := ?_) #[true, true, false, true, false, false, false, false, true, false, false, false, false, false, false] rfl rfl (q0d HT_.out (by kernel_rfl)) (fun _ _ _ h => h) (Or.inl ⟨by rfl, ?_⟩) ?_ ?_
                rotate_left
                ·intro w'
                 go_simp
                 with_reducible rfl
                rotate_left
                ·simp only [Act.put, s1, s2, s3, q0b, q0c]
                 rfl
                refine q0j (i := 10) (N := some 62) (v := ?_) (a' := ?_) #[true, true, false, true, false, false, false, false, true, false, true, false, false, false, false] rfl rfl (q0d HT_.out (by kernel_rfl)) (fun _ _ _ h => h) (Or.inl ⟨by rfl, ?_⟩) ?_ ?_
                rotate_left
                ·intro w'
                 go_simp
                 with_reducible rfl
                rotate_left
                ·simp only [Act.put, s1, s2, s3, q0b, q0c]
                 rfl
                refine take_ (i := 2) (N := some 54) (v := ?_) (a' := ?_) #[true, true, true, true, false, false, false, false, true, false, true, false, false, false, false] rfl rfl (q0o HT_.out HW_.out (by kernel_rfl)) (fun _ _ _ h => h) (Or.inl ⟨by rfl, ?_⟩) hHeld ?_ ?_
                rotate_left
                ·rintro w' ⟨s0, s1, s2, s3, s4, s5, s6, s7, s8, s9, s10, s11⟩
                 go_simp
                 with_reducible rfl
                rotate_left
                ·simp only [Act.put, s1, s2, s3, q0b, q0c]
                 rfl
                refine take_ (i := 4) (N := some 56) (v := ?_) (a' := ?_) #[true, true, true, true, true, false, false, false, true, false, true, false, false, false, false] rfl rfl (q0o HT_.out HW_.out (by kernel_rfl)) (fun _ _ _ h => h) (Or.inl ⟨by rfl, ?_⟩) hHeld ?_ ?_
                rotate_left
                ·rintro w' ⟨s0, s1, s2, s3, s4, s5, s6, s7, s8, s9, s10, s11⟩
                 go_simp
                 with_reducible rfl
                rotate_left
                ·simp only [Act.put, s1, s2, s3, q0b, q0c]
                 rfl
                refine q0j (i := 5) (N := some 57) (v := ?_) (a' := ?_) #[true, true, true, true, true, true, false, false, true, false, true, false, false, false, false] rfl rfl (q0d HT_.out (by kernel_rfl)) (fun _ _ _ h => h) (Or.inl ⟨by rfl, ?_⟩) ?_ ?_
                rotate_left
                ·intro w'
                 go_simp
                 with_reducible rfl
                rotate_left
                ·simp only [Act.put, s1, s2, s3, q0b, q0c]
                 rfl
                refine q0j (i := 6) (N := some 58) (v := ?_) (a' := ?_) #[true, true, true, true, true, true, true, false, true, false, true, false, false, false, false] rfl rfl (q0d HT_.out (by kernel_rfl)) (fun _ _ _ h => h) (Or.inl ⟨by rfl, ?_⟩) ?_ ?_
                rotate_left
                ·intro w'
                 go_simp
                 with_reducible rfl
                rotate_left
                ·simp only [Act.put, s1, s2, s3, q0b, q0c]
                 rfl
                refine take_ (i := 7) (N := some 59) (v := ?_) (a' := ?_) #[true, true, true, true, true, true, true, true, true, false, true, false, false, false, false] rfl rfl (q0o HT_.out HW_.out (by kernel_rfl)) (fun _ _ _ h => h) (Or.inl ⟨by rfl, ?_⟩) hHeld ?_ ?_
                rotate_left
                ·rintro w' ⟨s0, s1, s2, s3, s4, s5, s6, s7, s8, s9, s10, s11⟩
                 go_simp
                 with_reducible rfl
                rotate_left
                ·simp only [Act.put, s1, s2, s3, q0b, q0c]
                 rfl
                refine take_ (i := 9) (N := some 61) (v := ?_) (a' := ?_) #[true, true, true, true, true, true, true, true, true, true, true, false, false, false, false] rfl rfl (q0o HT_.out HW_.out (by kernel_rfl)) (fun _ _ _ h => h) (Or.inl ⟨by rfl, ?_⟩) hHeld ?_ ?_
                rotate_left
                ·rintro w' ⟨s0, s1, s2, s3, s4, s5, s6, s7, s8, s9, s10, s11⟩
                 go_simp
                 with_reducible rfl
                rotate_left
                ·simp only [Act.put, s1, s2, s3, q0b, q0c]
                 rfl
                refine take_ (i := 11) (N := some 63) (v := ?_) (a' := ?_) #[true, true, true, true, true, true, true, true, true, true, true, true, false, false, false] rfl rfl (q0o HT_.out HW_.out (by kernel_rfl)) (fun _ _ _ h => h) (Or.inl ⟨by rfl, ?_⟩) hHeld ?_ ?_
                rotate_left
                ·rintro w' ⟨s0, s1, s2, s3, s4, s5, s6, s7, s8, s9, s10, s11⟩
                 go_simp
                 with_reducible rfl
                rotate_left
                ·simp only [Act.put, s1, s2, s3, q0b, q0c]
                 rfl
                refine q0j (i := 12) (N := some 64) (v := ?_) (a' := ?_) #[true, true, true, true, true, true, true, true, true, true, true, true, true, false, false] rfl rfl (q0d HT_.out (by kernel_rfl)) (fun _ _ _ h => h) (Or.inl ⟨by rfl, ?_⟩) ?_ ?_
                rotate_left
                ·intro w'
                 go_simp
                 with_reducible rfl
                rotate_left
                ·simp only [Act.put, s1, s2, s3, q0b, q0c]
                 rfl
                refine q0j (i := 13) (N := some 65) (v := ?_) (a' := ?_) #[true, true, true, true, true, true, true, true, true, true, true, true, true, true, false] rfl rfl (q0d HT_.out (by kernel_rfl)) (fun _ _ _ h => h) (Or.inl ⟨by rfl, ?_⟩) ?_ ?_
                rotate_left
                ·intro w'
                 go_simp
                 with_reducible rfl
                rotate_left
                ·simp only [Act.put, s1, s2, s3, q0b, q0c]
                 rfl
                refine q0j (i := 14) (N := some 8) (v := ?_) (a' := ?_) #[true, true, true, true, true, true, true, true, true, true, true, true, true, true, true] rfl rfl (q0d HT_.out (by kernel_rfl)) (fun _ _ _ h => h) (Or.inl ⟨by rfl, ?_⟩) ?_ ?_
                rotate_left
                ·intro w'
                 go_simp
                 with_reducible rfl
                rotate_left
                ·simp only [Act.put, s1, s2, s3, q0b, q0c]
                 rfl
                refine done_ (q1s HT_.out (by kernel_rfl)) ?_
                try go_wp2
                go_roundg k1
                case measure => have := HK1.out; omega
                case rel => exact ⟨(x8_1 ++ (((q00 l0_0 ((q08 t367 x9_1).f0)).f3).extract (((q08 t367 x9_1).f1) : Int).toNat (((q08 t367 (ji17)).f1) : Int).toNat)), (ji17), (by first | rfl | (simp; done) | (simp only [← hji17] <;> (first | rfl | simp)) | (simp [*]; done)), (by first | rfl | (simp; done) | (simp only [← hji17] <;> (first | rfl | simp)) | (simp [*]; done)), H', ⟨by have := HK1.out; omega⟩, ⟨by (with_reducible repeat (first | apply rA | apply rN | apply rD)); exact Kd.R_mono HO_5.out (fun _ hk => trivial)⟩, ⟨by (with_reducible repeat (first | refine kN ?_ _ | refine kD ?_ | refine kA ?_ _)); exact BK365.out⟩, ⟨by (with_reducible repeat (first | refine kN ?_ _ | refine kD ?_ | refine kA ?_ _)); exact BK366.out⟩, ⟨by repeat (first | (with_reducible first | exact HB.out | apply bA | apply bN | apply bD | refine bS ?_ GE365.out | refine bS ?_ GE366.out | refine bS ?_ GE374.out | refine bS ?_ GE375.out) | exact HB.out)⟩⟩
               ·rw [if_neg c27] at H
                exact absurd H (by simp)
              ·rw [if_neg c26] at H
               exact absurd H (by simp)
             ·rw [if_neg c25] at H
              exact absurd H (by simp)
            ·rw [if_neg c24] at H
             exact absurd H (by simp)
           ·rw [if_neg c23] at H
            have c23b0 : (((q00 l0_0 ((q08 t367 x9_1).f0)).f0) == 3) = false := beq_eq_false_iff_ne.mpr c23
            have c23b1 : (((q00 l0_0 ((q08 t367 x9_1).f0)).f0) != 3) = true := bne_iff_ne.mpr c23
            have H' := aS H
            clear H
            have hnb57 := NB374_365.out
            have hnc57 := NB365_374.out
            have hnb58 := NB374_366.out
            have hnc58 := NB366_374.out
            have hnb59 := NB374_375.out
            have hnc59 := NB375_374.out
            have hcz60_0 : w32.cell? ⟨gb374, 0, none⟩ = some (.int .i64 0) := (q05 BK374.out 0).trans rfl
            have hcz60_1 : w32.cell? ⟨gb374, 1, none⟩ = some (.int .i64 0) := (q05 BK374.out 1).trans rfl
            have hfz60_0 := q0m BK374.out 0
            have hfz60_1 := q0m BK374.out 1
            have hnb61 := NB375_365.out
            have hnc61 := NB365_375.out
            have hnb62 := NB375_366.out
            have hnc62 := NB366_375.out
            have hcz63_0 : w32.cell? ⟨gb375, 0, none⟩ = some (.int .i64 0) := (q05 BK375.out 0).trans rfl
            have hcz63_1 : w32.cell? ⟨gb375, 1, none⟩ = some (.int .i64 0) := (q05 BK375.out 1).trans rfl
            have hfz63_0 := q0m BK375.out 0
            have hfz63_1 := q0m BK375.out 1
            have hnb64 := NB365_366.out
            have hnc64 := NB366_365.out
            have hcz65_0 : w32.cell? ⟨gb365, 0, none⟩ = some (.slice A0_0 l0_0.length c0_0) := (q05 BK365.out 0).trans rfl
            have hcz65_1 : w32.cell? ⟨gb365, 1, none⟩ = some (.bool a0_1) := (q05 BK365.out 1).trans rfl
            have hfz65_0 := q0m BK365.out 0
            have hfz65_1 := q0m BK365.out 1
            have p376 : 0 ≤ (((q08 t367 x9_1).f0) : Int) := od zc
            have q376 : ((q08 t367 x9_1).f0) < (l0_0.length : Int) := od zc
            obtain ⟨ad376, A376_2, c376_2, A376_5, c376_5, e376, hx376_0, hx376_1, hx376_2, hx376_3, hx376_4, hx376_5, hl376_2, hi376_2, hl376_5, hi376_5⟩ := at_T43 HR0_0.out ((q08 t367 x9_1).f0) p376 q376
            cases e376
            have hn376_0 : ad376.block ≠ gb374 := Nat.ne_of_lt (Nat.lt_of_lt_of_le (by have := World.block_lt_of_cell? _ _ hx376_0; first | rwa [q07] at this | exact this) GW374.out)
            have hn376_1 : ad376.block ≠ gb374 := Nat.ne_of_lt (Nat.lt_of_lt_of_le (by have := World.block_lt_of_cell? _ _ hx376_0; first | rwa [q07] at this | exact this) GW374.out)
            have hn376_2 : ad376.block ≠ gb375 := Nat.ne_of_lt (Nat.lt_of_lt_of_le (by have := World.block_lt_of_cell? _ _ hx376_0; first | rwa [q07] at this | exact this) GW375.out)
            have hn376_3 : ad376.block ≠ gb375 := Nat.ne_of_lt (Nat.lt_of_lt_of_le (by have := World.block_lt_of_cell? _ _ hx376_0; first | rwa [q07] at this | exact this) GW375.out)
            replace hx376_0 := (HB.out.cell (World.block_lt_of_cell? w _ hx376_0)).trans hx376_0
            replace hx376_1 := (HB.out.cell (World.block_lt_of_cell? w _ hx376_1)).trans hx376_1
            replace hx376_2 := (HB.out.cell (World.block_lt_of_cell? w _ hx376_2)).trans hx376_2
            replace hx376_3 := (HB.out.cell (World.block_lt_of_cell? w _ hx376_3)).trans hx376_3
            replace hx376_4 := (HB.out.cell (World.block_lt_of_cell? w _ hx376_4)).trans hx376_4
            replace hx376_5 := (HB.out.cell (World.block_lt_of_cell? w _ hx376_5)).trans hx376_5
            have HR376_2 := aS hi376_2
            have HC376_2 := aS hl376_2
            clear hi376_2 hl376_2
            have HR376_5 := aS hi376_5
            have HC376_5 := aS hl376_5
            clear hi376_5 hl376_5
            replace hx376_0 := (q0h (p := ⟨gb374, 0, none⟩) (by first | (rw [q07]; exact hn376_0) | (show (Addr.add _ _).block ≠ _; rw [q07]; exact hn376_0) | exact hn376_0) (.int .i64 ((q08 t367 x9_1).f0))).trans hx376_0
            replace hx376_1 := (q0h (p := ⟨gb374, 0, none⟩) (by first | (rw [q07]; exact hn376_0) | (show (Addr.add _ _).block ≠ _; rw [q07]; exact hn376_0) | exact hn376_0) (.int .i64 ((q08 t367 x9_1).f0))).trans hx376_1
            replace hx376_2 := (q0h (p := ⟨gb374, 0, none⟩) (by first | (rw [q07]; exact hn376_0) | (show (Addr.add _ _).block ≠ _; rw [q07]; exact hn376_0) | exact hn376_0) (.int .i64 ((q08 t367 x9_1).f0))).trans hx376_2
            replace hx376_3 := (q0h (p := ⟨gb374, 0, none⟩) (by first | (rw [q07]; exact hn376_0) | (show (Addr.add _ _).block ≠ _; rw [q07]; exact hn376_0) | exact hn376_0) (.int .i64 ((q08 t367 x9_1).f0))).trans hx376_3
            replace hx376_4 := (q0h (p := ⟨gb374, 0, none⟩) (by first | (rw [q07]; exact hn376_0) | (show (Addr.add _ _).block ≠ _; rw [q07]; exact hn376_0) | exact hn376_0) (.int .i64 ((q08 t367 x9_1).f0))).trans hx376_4
            replace hx376_5 := (q0h (p := ⟨gb374, 0, none⟩) (by first | (rw [q07]; exact hn376_0) | (show (Addr.add _ _).block ≠ _; rw [q07]; exact hn376_0) | exact hn376_0) (.int .i64 ((q08 t367 x9_1).f0))).trans hx376_5
            replace hx376_0 := (q0h (p := ⟨gb374, 1, none⟩) (by first | (rw [q07]; exact hn376_1) | (show (Addr.add _ _).block ≠ _; rw [q07]; exact hn376_1) | exact hn376_1) (.int .i64 ((q08 t367 x9_1).f1))).trans hx376_0
            replace hx376_1 := (q0h (p := ⟨gb374, 1, none⟩) (by first | (rw [q07]; exact hn376_1) | (show (Addr.add _ _).block ≠ _; rw [q07]; exact hn376_1) | exact hn376_1) (.int .i64 ((q08 t367 x9_1).f1))).trans hx376_1
            replace hx376_2 := (q0h (p := ⟨gb374, 1, none⟩) (by first | (rw [q07]; exact hn376_1) | (show (Addr.add _ _).block ≠ _; rw [q07]; exact hn376_1) | exact hn376_1) (.int .i64 ((q08 t367 x9_1).f1))).trans hx376_2
            replace hx376_3 := (q0h (p := ⟨gb374, 1, none⟩) (by first | (rw [q07]; exact hn376_1) | (show (Addr.add _ _).block ≠ _; rw [q07]; exact hn376_1) | exact hn376_1) (.int .i64 ((q08 t367 x9_1).f1))).trans hx376_3
            replace hx376_4 := (q0h (p := ⟨gb374, 1, none⟩) (by first | (rw [q07]; exact hn376_1) | (show (Addr.add _ _).block ≠ _; rw [q07]; exact hn376_1) | exact hn376_1) (.int .i64 ((q08 t367 x9_1).f1))).trans hx376_4
            replace hx376_5 := (q0h (p := ⟨gb374, 1, none⟩) (by first | (rw [q07]; exact hn376_1) | (show (Addr.add _ _).block ≠ _; rw [q07]; exact hn376_1) | exact hn376_1) (.int .i64 ((q08 t367 x9_1).f1))).trans hx376_5
            replace hx376_0 := (q0h (p := ⟨gb375, 0, none⟩) (by first | (rw [q07]; exact hn376_2) | (show (Addr.add _ _).block ≠ _; rw [q07]; exact hn376_2) | exact hn376_2) (.int .i64 ((q08 t367 (ji17)).f0))).trans hx376_0
            replace hx376_1 := (q0h (p := ⟨gb375, 0, none⟩) (by first | (rw [q07]; exact hn376_2) | (show (Addr.add _ _).block ≠ _; rw [q07]; exact hn376_2) | exact hn376_2) (.int .i64 ((q08 t367 (ji17)).f0))).trans hx376_1
            replace hx376_2 := (q0h (p := ⟨gb375, 0, none⟩) (by first | (rw [q07]; exact hn376_2) | (show (Addr.add _ _).block ≠ _; rw [q07]; exact hn376_2) | exact hn376_2) (.int .i64 ((q08 t367 (ji17)).f0))).trans hx376_2
            replace hx376_3 := (q0h (p := ⟨gb375, 0, none⟩) (by first | (rw [q07]; exact hn376_2) | (show (Addr.add _ _).block ≠ _; rw [q07]; exact hn376_2) | exact hn376_2) (.int .i64 ((q08 t367 (ji17)).f0))).trans hx376_3
            replace hx376_4 := (q0h (p := ⟨gb375, 0, none⟩) (by first | (rw [q07]; exact hn376_2) | (show (Addr.add _ _).block ≠ _; rw [q07]; exact hn376_2) | exact hn376_2) (.int .i64 ((q08 t367 (ji17)).f0))).trans hx376_4
            replace hx376_5 := (q0h (p := ⟨gb375, 0, none⟩) (by first | (rw [q07]; exact hn376_2) | (show (Addr.add _ _).block ≠ _; rw [q07]; exact hn376_2) | exact hn376_2) (.int .i64 ((q08 t367 (ji17)).f0))).trans hx376_5
            replace hx376_0 := (q0h (p := ⟨gb375, 1, none⟩) (by first | (rw [q07]; exact hn376_3) | (show (Addr.add _ _).block ≠ _; rw [q07]; exact hn376_3) | exact hn376_3) (.int .i64 ((q08 t367 (ji17)).f1))).trans hx376_0
            replace hx376_1 := (q0h (p := ⟨gb375, 1, none⟩) (by first | (rw [q07]; exact hn376_3) | (show (Addr.add _ _).block ≠ _; rw [q07]; exact hn376_3) | exact hn376_3) (.int .i64 ((q08 t367 (ji17)).f1))).trans hx376_1
            replace hx376_2 := (q0h (p := ⟨gb375, 1, none⟩) (by first | (rw [q07]; exact hn376_3) | (show (Addr.add _ _).block ≠ _; rw [q07]; exact hn376_3) | exact hn376_3) (.int .i64 ((q08 t367 (ji17)).f1))).trans hx376_2
            replace hx376_3 := (q0h (p := ⟨gb375, 1, none⟩) (by first | (rw [q07]; exact hn376_3) | (show (Addr.add _ _).block ≠ _; rw [q07]; exact hn376_3) | exact hn376_3) (.int .i64 ((q08 t367 (ji17)).f1))).trans hx376_3
            replace hx376_4 := (q0h (p := ⟨gb375, 1, none⟩) (by first | (rw [q07]; exact hn376_3) | (show (Addr.add _ _).block ≠ _; rw [q07]; exact hn376_3) | exact hn376_3) (.int .i64 ((q08 t367 (ji17)).f1))).trans hx376_4
            replace hx376_5 := (q0h (p := ⟨gb375, 1, none⟩) (by first | (rw [q07]; exact hn376_3) | (show (Addr.add _ _).block ≠ _; rw [q07]; exact hn376_3) | exact hn376_3) (.int .i64 ((q08 t367 (ji17)).f1))).trans hx376_5
            clear hn376_0
            clear hn376_1
            clear hn376_2
            clear hn376_3
            replace p376 := eq_true p376
            replace q376 := eq_true q376
            try go_wp2
            go_roundg k1
            case measure => have := HK1.out; omega
            case rel => exact ⟨(x8_1), (ji17), zj, (by first | rfl | (simp; done) | (simp only [← hji17] <;> (first | rfl | simp)) | (simp [*]; done)), H', ⟨by have := HK1.out; omega⟩, ⟨by (with_reducible repeat (first | apply rA | apply rN | apply rD)); exact Kd.R_mono (Kd.R_far (p := ⟨gb375, 1, none⟩) (Kd.R_far (p := ⟨gb375, 0, none⟩) (Kd.R_far (p := ⟨gb374, 1, none⟩) (Kd.R_far (p := ⟨gb374, 0, none⟩) (Kd.R_mono (Kd.R_mono HO_5.out (fun k_ hk => (⟨hk, hk.1⟩ : _ ∧ k_ ≠ gb374))) (fun k_ hk => (⟨hk, hk.1.2⟩ : _ ∧ k_ ≠ gb375))) (fun _ hk => hk.1.2) (.int .i64 ((q08 t367 x9_1).f0))) (fun _ hk => hk.1.2) (.int .i64 ((q08 t367 x9_1).f1))) (fun _ hk => hk.2) (.int .i64 ((q08 t367 (ji17)).f0))) (fun _ hk => hk.2) (.int .i64 ((q08 t367 (ji17)).f1))) (fun _ hk => trivial)⟩, ⟨by (with_reducible repeat (first | refine kN ?_ _ | refine kD ?_ | refine kA ?_ _)); refine q0e ?_ NB365_375.out _; (with_reducible repeat (first | refine kN ?_ _ | refine kD ?_ | refine kA ?_ _)); refine q0e ?_ NB365_375.out _; (with_reducible repeat (first | refine kN ?_ _ | refine kD ?_ | refine kA ?_ _)); refine q0e ?_ NB365_374.out _; (with_reducible repeat (first | refine kN ?_ _ | refine kD ?_ | refine kA ?_ _)); refine q0e ?_ NB365_374.out _; (with_reducible repeat (first | refine kN ?_ _ | refine kD ?_ | refine kA ?_ _)); exact BK365.out⟩, ⟨by (with_reducible repeat (first | refine kN ?_ _ | refine kD ?_ | refine kA ?_ _)); refine q0e ?_ NB366_375.out _; (with_reducible repeat (first | refine kN ?_ _ | refine kD ?_ | refine kA ?_ _)); refine q0e ?_ NB366_375.out _; (with_reducible repeat (first | refine kN ?_ _ | refine kD ?_ | refine kA ?_ _)); refine q0e ?_ NB366_374.out _; (with_reducible repeat (first | refine kN ?_ _ | refine kD ?_ | refine kA ?_ _)); refine q0e ?_ NB366_374.out _; (with_reducible repeat (first | refine kN ?_ _ | refine kD ?_ | refine kA ?_ _)); exact BK366.out⟩, ⟨by repeat (first | (with_reducible first | exact HB.out | apply bA | apply bN | apply bD | refine bS ?_ GE365.out | refine bS ?_ GE366.out | refine bS ?_ GE374.out | refine bS ?_ GE375.out) | exact HB.out)⟩⟩
          ·rw [if_neg c22] at H
           exact absurd H (by simp)
         ·rw [if_neg c21] at H
          exact absurd H (by simp)
        ·rw [if_neg c20] at H
         have c20b0 : (((q08 t367 x9_1).f0) == ((q08 t367 (ji17)).f0)) = false := beq_eq_false_iff_ne.mpr c20
         have c20b1 : (((q08 t367 x9_1).f0) != ((q08 t367 (ji17)).f0)) = true := bne_iff_ne.mpr c20
         have H' := aS H
         clear H
         have hnb75 := NB374_365.out
         have hnc75 := NB365_374.out
         have hnb76 := NB374_366.out
         have hnc76 := NB366_374.out
         have hnb77 := NB374_375.out
         have hnc77 := NB375_374.out
         have hcz78_0 : w32.cell? ⟨gb374, 0, none⟩ = some (.int .i64 0) := (q05 BK374.out 0).trans rfl
         have hcz78_1 : w32.cell? ⟨gb374, 1, none⟩ = some (.int .i64 0) := (q05 BK374.out 1).trans rfl
         have hfz78_0 := q0m BK374.out 0
         have hfz78_1 := q0m BK374.out 1
         have hnb79 := NB375_365.out
         have hnc79 := NB365_375.out
         have hnb80 := NB375_366.out
         have hnc80 := NB366_375.out
         have hcz81_0 : w32.cell? ⟨gb375, 0, none⟩ = some (.int .i64 0) := (q05 BK375.out 0).trans rfl
         have hcz81_1 : w32.cell? ⟨gb375, 1, none⟩ = some (.int .i64 0) := (q05 BK375.out 1).trans rfl
         have hfz81_0 := q0m BK375.out 0
         have hfz81_1 := q0m BK375.out 1
         try go_wp2
         go_roundg k1
         case measure => have := HK1.out; omega
         case rel => exact ⟨(x8_1), (ji17), zj, (by first | rfl | (simp; done) | (simp only [← hji17] <;> (first | rfl | simp)) | (simp [*]; done)), H', ⟨by have := HK1.out; omega⟩, ⟨by (with_reducible repeat (first | apply rA | apply rN | apply rD)); exact Kd.R_mono (Kd.R_far (p := ⟨gb375, 1, none⟩) (Kd.R_far (p := ⟨gb375, 0, none⟩) (Kd.R_far (p := ⟨gb374, 1, none⟩) (Kd.R_far (p := ⟨gb374, 0, none⟩) (Kd.R_mono (Kd.R_mono HO_5.out (fun k_ hk => (⟨hk, hk.1⟩ : _ ∧ k_ ≠ gb374))) (fun k_ hk => (⟨hk, hk.1.2⟩ : _ ∧ k_ ≠ gb375))) (fun _ hk => hk.1.2) (.int .i64 ((q08 t367 x9_1).f0))) (fun _ hk => hk.1.2) (.int .i64 ((q08 t367 x9_1).f1))) (fun _ hk => hk.2) (.int .i64 ((q08 t367 (ji17)).f0))) (fun _ hk => hk.2) (.int .i64 ((q08 t367 (ji17)).f1))) (fun _ hk => trivial)⟩, ⟨by (with_reducible repeat (first | refine kN ?_ _ | refine kD ?_ | refine kA ?_ _)); refine q0e ?_ NB365_375.out _; (with_reducible repeat (first | refine kN ?_ _ | refine kD ?_ | refine kA ?_ _)); refine q0e ?_ NB365_375.out _; (with_reducible repeat (first | refine kN ?_ _ | refine kD ?_ | refine kA ?_ _)); refine q0e ?_ NB365_374.out _; (with_reducible repeat (first | refine kN ?_ _ | refine kD ?_ | refine kA ?_ _)); refine q0e ?_ NB365_374.out _; (with_reducible repeat (first | refine kN ?_ _ | refine kD ?_ | refine kA ?_ _)); exact BK365.out⟩, ⟨by (with_reducible repeat (first | refine kN ?_ _ | refine kD ?_ | refine kA ?_ _)); refine q0e ?_ NB366_375.out _; (with_reducible repeat (first | refine kN ?_ _ | refine kD ?_ | refine kA ?_ _)); refine q0e ?_ NB366_375.out _; (with_reducible repeat (first | refine kN ?_ _ | refine kD ?_ | refine kA ?_ _)); refine q0e ?_ NB366_374.out _; (with_reducible repeat (first | refine kN ?_ _ | refine kD ?_ | refine kA ?_ _)); refine q0e ?_ NB366_374.out _; (with_reducible repeat (first | refine kN ?_ _ | refine kD ?_ | refine kA ?_ _)); exact BK366.out⟩, ⟨by repeat (first | (with_reducible first | exact HB.out | apply bA | apply bN | apply bD | refine bS ?_ GE365.out | refine bS ?_ GE366.out | refine bS ?_ GE374.out | refine bS ?_ GE375.out) | exact HB.out)⟩⟩
       ·rw [if_neg c19] at H
        exact absurd H (by simp)
      ·rw [if_neg c18] at H
       exact absurd H (by simp)
     ·rw [if_neg c16] at H
      exact absurd H (by simp)
    ·rw [if_neg c15] at H
     exact absurd H (by simp)
   ·rw [if_neg c14] at H
    have c14b0 : decide (x9_1 < t371) = false := decide_eq_false c14
    clear c14
    obtain rfl := Option.some.inj H
    go_wp2
    go_ret
    exact ⟨by first | rfl | (simp [q04, q03] <;> rfl) | (simp [*, q04, q03] <;> rfl), by repeat (first | (with_reducible first | exact HB.out | apply bA | apply bN | apply bD | refine bS ?_ GE365.out | refine bS ?_ GE366.out) | exact HB.out)⟩
end Go.Proofs.YthjnallbbhnndaaDoor.XSp
namespace Go.Proofs.YthjnallbbhnndaaDoor.XSp
open Go.Proofs.YthjnallbbhnndaaDoor.Short Go.RowKit Go.Proofs.YthjnallbbhnndaaDoorW.PrintWords Go.Proofs.YthjnallbbhnndaaDoorW.PrintLast Go.Proofs.YthjnallbbhnndaaDoorW.PrintMore
attribute [local go_sem] q15 q13 q1d q1c q0w q0v q14 q12   -- for this text's walks alone
set_option linter.unusedVariables false
set_option linter.unusedSimpArgs false
def span_Check.f (k : Nat) (l0_0 : List (S43)) (a0_1 : Bool) (a1_0 : Int) (a1_1 : Int) (a1_2 : Int) (a1_3 : Int) : Option (Int) := (span_span.f k l0_0 a0_1 a1_0 a1_1 a1_2 a1_3).bind fun bt381 => (some bt381.2.2)
theorem span_Check.mono : ∀ a0 a1 a2 a3 a4 a5 k, LeO (span_Check.f k a0 a1 a2 a3 a4 a5) (span_Check.f (k + 1) a0 a1 a2 a3 a4 a5) := by
 intro a0 a1 a2 a3 a4 a5 k
 unfold span_Check.f
 repeat' first | with_reducible first | apply span_span.mono | exact LeO.refl _ | exact LeO.none _ | refine LeO.ite ?_ ?_ | refine LeO.bind ?_ (fun _ => ?_) | (first | apply span_span.mono | exact LeO.none _ | refine LeO.ite ?_ ?_ | refine LeO.bind ?_ (fun _ => ?_))
set_option maxHeartbeats 8000000 in
set_option maxRecDepth 100000 in
theorem span_Check.calls (k : Nat) (A0_0 : Option Addr) (c0_0 : Nat) (l0_0 : List (S43)) (a0_1 : Bool) (a1_0 : Int) (a1_1 : Int) (a1_2 : Int) (a1_3 : Int) (r : Int) (w : World) (hr0_0 : Kd.C k43 w A0_0 l0_0.length l0_0) (hc0_0 : l0_0.length ≤ c0_0) (h : span_Check.f k l0_0 a0_1 a1_0 a1_1 a1_2 a1_3 = some r) :
 Calls Tryd.prog 41 #[.agg #[.slice A0_0 l0_0.length c0_0, .bool a0_1], .agg #[.int .i64 a1_0, .int .i64 a1_1, .int .i64 a1_2, .int .i64 a1_3]] w fun e w' => e = .returned (.int .i64 r) ∧ Below w.heap.size w w' := by
 have hu24 := Tryd.underlying24
 have hu52 := Tryd.underlying52
 have hu124 := Tryd.underlying124
 have HR0_0 := aS hr0_0
 have HC0_0 := aS hc0_0
 clear hr0_0 hc0_0
 have HB := aS (Below.refl w.heap.size w)
 have H := h; clear h; unfold span_Check.f at H
 replace H := iB H
 obtain ⟨⟨t381, t384, t385⟩, A3, H⟩ := H
 try dsimp only at H
 obtain rfl := Option.some.inj H
 go_enter Tryd.func41, Tryd.ntmps41
 go_wp2_with (first | ((with_reducible refine q09 (N := 2) rfl ?_); refine box0 rfl (N := 2) rfl (cs := #[.slice A0_0 l0_0.length c0_0, .bool a0_1]) (t := 24) zi (z7 HB.out) ?_; clear HB; intro gb379 w4 BK379 GW379 HB; have GE379 := GW379) | ((with_reducible refine q09 (N := 3) rfl ?_); refine q0k ?hg (N := 3) ?hd (cs := #[.int .i64 a1_0, .int .i64 a1_1, .int .i64 a1_2, .int .i64 a1_3]) (t := 52) ?hr ?_; (case hd => rfl); (case hg => rfl); (case hr => first | (go_simp; done) | (go_simp; rfl)); intro gb380 hg w5 hbox hb; have n0_ := aS (q01 (g := gb379) (o := .cells #[.slice A0_0 l0_0.length c0_0, .bool a0_1] 24 (0, 0)) (za BK379.out) hb); have n1_ := aS (q02 (z6 HB.out GE379.out) hb); have n2_ := aS (hbox); have n3_ := aS ((by rw [hg]; exact (q06 (z6 HB.out GE379.out)) : w.heap.size ≤ gb380)); have n4_ := aS ((by rw [hg]; exact (q06 (z6 HB.out GE379.out)) : w.heap.size ≤ gb380)); have n5_ := aS ((by rw [hg]; exact Nat.ne_of_lt (q0f (g := gb379) (o := .cells #[.slice A0_0 l0_0.length c0_0, .bool a0_1] 24 (0, 0)) (za BK379.out)) : gb379 ≠ gb380)); have n6_ := aS ((by rw [hg]; exact Nat.ne_of_gt (q0f (g := gb379) (o := .cells #[.slice A0_0 l0_0.length c0_0, .bool a0_1] 24 (0, 0)) (za BK379.out)) : gb380 ≠ gb379)); clear BK379; clear HB; have BK379 := n0_; have HB := n1_; have BK380 := n2_; have GW380 := n3_; have GE380 := n4_; have NB379_380 := n5_; have NB380_379 := n6_; clear n0_ n1_ n2_ n3_ n4_ n5_ n6_; clear hb hbox hg; have hnb6 := NB379_380.out; have hnc6 := NB380_379.out; obtain ⟨hcz7_0, hcz7_1, hfz7_0, hfz7_1⟩ := bk2 BK379.out; obtain ⟨hcz8_0, hcz8_1, hcz8_2, hcz8_3, hfz8_0, hfz8_1, hfz8_2, hfz8_3⟩ := bk4 BK380.out) | ((with_reducible refine q0a (f := 82) rfl ?_); refine q0p (some 10) rfl rfl Tryd.func82 (by kernel_rfl) rfl #[.agg #[.slice A0_0 l0_0.length c0_0, .bool a0_1], .agg #[.int .i64 a1_0, .int .i64 a1_1, .int .i64 a1_2, .int .i64 a1_3]] rfl zd ?_; (with_reducible refine (span_span.calls k (fun k_ => k_ < w.heap.size) _ _ l0_0 a0_1 a1_0 a1_1 a1_2 a1_3 t381 t384 t385 _ ?side1 A3.out).mono ?_); (case side1 => exact Kd.V_mk HC0_0.out (Kd.F_below (Kd.C_F k43_heap HR0_0.out) (by repeat (first | (with_reducible first | exact HB.out | apply bA | apply bN | apply bD | refine bS ?_ GE379.out | refine bS ?_ GE380.out) | exact HB.out)))); rintro e w9 ⟨v382, rfl, ho0, hb⟩; refine ⟨_, rfl, ?_⟩; have HO383 := aS (Kd.V_lower (Kd.V_mono (ok' := fun k_ => k_ ≠ gb379 ∧ k_ ≠ gb380) ho0 (fun k_ hk_ => ⟨Or.elim hk_ (fun hs_ => fun e_ => Nat.not_le.2 hs_ (by rw [e_]; exact GW379.out)) (fun hn_ => (Kd.freshB (g := gb379) (o := .cells #[.slice A0_0 l0_0.length c0_0, .bool a0_1] 24 (0, 0)) (za BK379.out) k_ hn_)), Or.elim hk_ (fun hs_ => fun e_ => Nat.not_le.2 hs_ (by rw [e_]; exact GW380.out)) (fun hn_ => (Kd.freshB (g := gb380) (o := .cells #[.int .i64 a1_0, .int .i64 a1_1, .int .i64 a1_2, .int .i64 a1_3] 52 (0, 0)) (za BK380.out) k_ hn_))⟩)) (q06 (by repeat (first | (with_reducible first | exact HB.out | apply bA | apply bN | apply bD | refine bS ?_ GE379.out | refine bS ?_ GE380.out) | exact HB.out)))); replace BK379 := aS (q01 (g := gb379) (o := .cells #[.slice A0_0 l0_0.length c0_0, .bool a0_1] 24 (0, 0)) (za BK379.out) hb); replace BK380 := aS (q01 (g := gb380) (o := .cells #[.int .i64 a1_0, .int .i64 a1_1, .int .i64 a1_2, .int .i64 a1_3] 52 (0, 0)) (za BK380.out) hb); replace HB := aS (q02 (by repeat (first | (with_reducible first | exact HB.out | apply bA | apply bN | apply bD | refine bS ?_ GE379.out | refine bS ?_ GE380.out) | exact HB.out)) hb); (try clear hb); (try clear hb2); (try clear hk); (try clear hi); (try clear ho0)) | ((with_reducible refine q09 (N := 5) rfl ?_); refine q0k ?hg (N := 5) ?hd (cs := #[.slice none 0 0, .bool false]) (t := 124) ?hr ?_; (case hd => rfl); (case hg => rfl); (case hr => first | (go_simp; done) | (go_simp; rfl)); intro gb386 hg w10 hbox hb; have n0_ := aS (Kd.V_below (Kd.V_elderB (zf HO383.out) gb386 (Nat.le_of_eq hg.symm)) hb); have n1_ := aS (q01 (g := gb379) (o := .cells #[.slice A0_0 l0_0.length c0_0, .bool a0_1] 24 (0, 0)) (za BK379.out) hb); have n2_ := aS (q01 (g := gb380) (o := .cells #[.int .i64 a1_0, .int .i64 a1_1, .int .i64 a1_2, .int .i64 a1_3] 52 (0, 0)) (za BK380.out) hb); have n3_ := aS (q02 (by repeat (first | (with_reducible first | exact HB.out | apply bA | apply bN | apply bD | refine bS ?_ GE379.out | refine bS ?_ GE380.out) | exact HB.out)) hb); have n4_ := aS (hbox); have n5_ := aS ((by rw [hg]; exact (q06 (by repeat (first | (with_reducible first | exact HB.out | apply bA | apply bN | apply bD | refine bS ?_ GE379.out | refine bS ?_ GE380.out) | exact HB.out))) : w.heap.size ≤ gb386)); have n6_ := aS ((by rw [hg]; exact (q06 (by repeat (first | (with_reducible first | exact HB.out | apply bA | apply bN | apply bD | refine bS ?_ GE379.out | refine bS ?_ GE380.out) | exact HB.out))) : w.heap.size ≤ gb386)); have n7_ := aS ((by rw [hg]; exact Nat.ne_of_lt (q0f (g := gb379) (o := .cells #[.slice A0_0 l0_0.length c0_0, .bool a0_1] 24 (0, 0)) (za BK379.out)) : gb379 ≠ gb386)); have n8_ := aS ((by rw [hg]; exact Nat.ne_of_gt (q0f (g := gb379) (o := .cells #[.slice A0_0 l0_0.length c0_0, .bool a0_1] 24 (0, 0)) (za BK379.out)) : gb386 ≠ gb379)); have n9_ := aS ((by rw [hg]; exact Nat.ne_of_lt (q0f (g := gb380) (o := .cells #[.int .i64 a1_0, .int .i64 a1_1, .int .i64 a1_2, .int .i64 a1_3] 52 (0, 0)) (za BK380.out)) : gb380 ≠ gb386)); have n10_ := aS ((by rw [hg]; exact Nat.ne_of_gt (q0f (g := gb380) (o := .cells #[.int .i64 a1_0, .int .i64 a1_1, .int .i64 a1_2, .int .i64 a1_3] 52 (0, 0)) (za BK380.out)) : gb386 ≠ gb380)); clear HO383; clear BK379; clear BK380; clear HB; have HO383 := n0_; have BK379 := n1_; have BK380 := n2_; have HB := n3_; have BK386 := n4_; have GW386 := n5_; have GE386 := n6_; have NB379_386 := n7_; have NB386_379 := n8_; have NB380_386 := n9_; have NB386_380 := n10_; clear n0_ n1_ n2_ n3_ n4_ n5_ n6_ n7_ n8_ n9_ n10_; clear hb hbox hg; obtain ⟨Ao11, co11, eo11⟩ := Kd.V_slice HO383.out; subst eo11; have hnb12 := NB386_379.out; have hnc12 := NB379_386.out; have hnb13 := NB386_380.out; have hnc13 := NB380_386.out; obtain ⟨hcz14_0, hcz14_1, hfz14_0, hfz14_1⟩ := bk2 BK386.out))
 go_ret
 exact ⟨by first | rfl | (simp [q04, q03] <;> rfl) | (simp [*, q04, q03] <;> rfl), by repeat (first | (with_reducible first | exact HB.out | apply bA | apply bN | apply bD | refine bS ?_ GE379.out | refine bS ?_ GE380.out | refine bS ?_ GE386.out) | exact HB.out)⟩
end Go.Proofs.YthjnallbbhnndaaDoor.XSp
namespace Go.Proofs.YthjnallbbhnndaaDoor.XSp
open Go.Proofs.YthjnallbbhnndaaDoor.Short Go.RowKit Go.Proofs.YthjnallbbhnndaaDoorW.PrintWords Go.Proofs.YthjnallbbhnndaaDoorW.PrintLast Go.Proofs.YthjnallbbhnndaaDoorW.PrintMore
attribute [local go_sem] q15 q13 q1d q1c q0w q0v q14 q12   -- for this text's walks alone
set_option linter.unusedVariables false
set_option linter.unusedSimpArgs false
def lpW (k : Nat) (n : List S43) (q : Bool) (a b c d : Int) : Option Int := (clerestoryref1_DocErr.f k n q).bind fun e => if e = 0 then (clerestoryref1_PointErr.f k n q a b).bind fun p => if p = 0 then clerestoryref1_PointErr.f k n q c d else some p else some e
def clerestorylaw1_SpanPoints.f (k : Nat) (l0 : List S43) (q : Bool) (a b c d : Int) : Option Bool := (clerestorylaw1_brief.f k l0 q).bind fun n => (span_Less.f k n.1 n.2 a b c d).bind fun L => (span_Text.f k n.1 n.2 a b c d).bind fun T => (lpW k n.1 n.2 a b c d).bind fun W => (clerestoryref1_SpanErr.f k n.1 n.2 a b c d).bind fun V => (if W = 0 then (clerestoryref1_SpanErr.f k n.1 n.2 c d a b).bind fun z => some (z == 9) else some false).bind fun s => (if V = 0 then clerestoryref1_SpanText.f k n.1 n.2 a b c d else some ⟨#[]⟩).bind fun t => (clerestorylaw1_spanBegun.f k).bind fun g => (span_Check.f k n.1 n.2 a b c d).bind fun h => if g = true ∧ h = V ∧ L.1 = s ∧ L.2 = W ∧ T.1.toList = t.toList ∧ T.2 = V then some true else none
set_option maxHeartbeats 16000000 in
set_option maxRecDepth 100000 in
theorem clerestorylaw1_SpanPoints.calls (k : Nat) (A0 : Option Addr) (c0 : Nat) (l0 : List S43) (q : Bool) (s0 s1 s2 s3 : Int) (r : Bool) (w : World) (hr0 : Kd.C k43 w A0 l0.length l0) (hc0 : l0.length ≤ c0) (h : clerestorylaw1_SpanPoints.f k l0 q s0 s1 s2 s3 = some r) :
    Calls Tryd.prog 7 #[.agg #[.slice A0 l0.length c0, .bool q], .agg #[.int .i64 s0, .int .i64 s1, .int .i64 s2, .int .i64 s3]] w fun e w' => e = .returned (.bool r) ∧ Below w.heap.size w w' := by
  have hu24 := Tryd.underlying24
  have hu52 := Tryd.underlying52
  have hu50 := Tryd.underlying50
  have HC := Aside0.mk hr0
  have HL := Aside0.mk hc0
  clear hr0 hc0
  unfold clerestorylaw1_SpanPoints.f at h
  obtain ⟨⟨p1, p2⟩, hf, h⟩ := Option.bind_eq_some_iff.1 h
  have HF := Aside0.mk hf
  obtain ⟨⟨L1, L2⟩, hl, h⟩ := Option.bind_eq_some_iff.1 h
  have HLE : Aside0 (span_Less.f k p1 p2 s0 s1 s2 s3 = some (L1, L2)) := ⟨hl⟩
  obtain ⟨⟨T1, T2⟩, ht, h⟩ := Option.bind_eq_some_iff.1 h
  have HTE : Aside0 (span_Text.f k p1 p2 s0 s1 s2 s3 = some (T1, T2)) := ⟨ht⟩
  obtain ⟨W, hw, h⟩ := Option.bind_eq_some_iff.1 h
  have HW : Aside0 (lpW k p1 p2 s0 s1 s2 s3 = some W) := ⟨hw⟩
  obtain ⟨V, hv, h⟩ := Option.bind_eq_some_iff.1 h
  have HVE : Aside0 (clerestoryref1_SpanErr.f k p1 p2 s0 s1 s2 s3 = some V) := ⟨hv⟩
  obtain ⟨s, hs, h⟩ := Option.bind_eq_some_iff.1 h
  have HSS : Aside0 ((if W = 0 then (clerestoryref1_SpanErr.f k p1 p2 s2 s3 s0 s1).bind fun z => some (z == 9) else some false) = some s) := ⟨hs⟩
  obtain ⟨t, htx, h⟩ := Option.bind_eq_some_iff.1 h
  have HTX : Aside0 ((if V = 0 then clerestoryref1_SpanText.f k p1 p2 s0 s1 s2 s3 else some ⟨#[]⟩) = some t) := ⟨htx⟩
  obtain ⟨g, hg, h⟩ := Option.bind_eq_some_iff.1 h
  obtain ⟨ch, hch, h⟩ := Option.bind_eq_some_iff.1 h
  refine iGq h ?_
  clear h
  intro ⟨g1, g2, g3, g4, g5, g6⟩ h
  obtain rfl := Option.some.inj h
  have HG : Aside0 (clerestorylaw1_spanBegun.f k = some true) := ⟨by rw [← g1]; exact hg⟩
  have HCH : Aside0 (span_Check.f k p1 p2 s0 s1 s2 s3 = some V) := ⟨by rw [← g2]; exact hch⟩
  have g3 : L1 = s := g3
  have g4 : L2 = W := g4
  have g5 : T1.toList = t.toList := g5
  have g6 : T2 = V := g6
  subst g3 g4 g6
  have b3 : (T1.toList == t.toList) = true := beq_iff_eq.mpr g5
  have b4 : (T2 == T2) = true := beq_self_eq_true _
  have b5 : (L2 == L2) = true := beq_self_eq_true _
  have b6 : (L1 == L1) = true := beq_self_eq_true _
  clear hf hl ht hw hv hs htx hg hch g1 g2 g5 h
  go_enter Tryd.func7, Tryd.ntmps7
  go_upto_region 1 with (first | ((with_reducible refine q09 (N := 2) rfl ?_); refine q20 rfl (N := 2) rfl (cs := #[.slice A0 l0.length c0, .bool q]) (t := 24) zi ?_; intro gd wd DK GD DS) | ((with_reducible refine q09 (N := 3) rfl ?_); refine q20 rfl (N := 3) rfl (cs := #[.int .i64 s0, .int .i64 s1, .int .i64 s2, .int .i64 s3]) (t := 52) zi ?_; intro gs ws_ SK GS SS))
  have n_DK := Aside0.mk (q01 DK.out SS.out)
  have HB := Aside0.mk (q02 DS.out SS.out)
  clear DK DS SS GS
  have DK := n_DK
  clear n_DK
  obtain ⟨hd0, hd1, hdf0, hdf1⟩ := bk2 DK.out
  obtain ⟨hs0, hs1, hs2, hs3, -, -, -, -⟩ := bk4 SK.out
  go_upto_region 2 with ((go_at_call 31; (with_reducible refine (clerestorylaw1_brief.calls k (fun k_ => k_ < w.heap.size) A0 c0 l0 q p1 p2 _ (Kd.V_mk HL.out (Kd.F_below (Kd.C_F k43_heap HC.out) HB.out)) HF.out).mono ?_); rintro e w7 ⟨v1, rfl, hn, hb⟩; obtain ⟨A1, c1, e_⟩ := Kd.N_slice hn; subst e_; have HV := Aside0.mk (Kd.N_V (base' := 0) hn); have n_DK := Aside0.mk (q01 DK.out hb); have n_SK := Aside0.mk (q01 SK.out hb); have n_HB := Aside0.mk (q02 HB.out hb); have HX := Aside0.mk (q0f DK.out); clear hd0 hd1 hdf0 hdf1 hs0 hs1 hs2 hs3; clear DK SK HB hn hb; have DK := n_DK; have SK := n_SK; have HB := n_HB; clear n_DK n_SK n_HB; obtain ⟨hd0, hd1, hdf0, hdf1⟩ := bk2 DK.out; obtain ⟨hs0, hs1, hs2, hs3, -, -, -, -⟩ := bk4 SK.out))
  have hfar : ∀ k_ : Nat, (k_ < w.heap.size ∨ ws_.heap.size ≤ k_) → k_ ≠ gd := fun k_ hk e_ => by
    have h1_ := GD.out
    have h2_ := HX.out
    omega
  have hne : gs ≠ gd := blk_ne SK.out DK.out (by decide)
  have HL1 := Aside0.mk (Kd.V_reads' HV.out).2.1
  have n_HC := Aside0.mk (Kd.V_reads' (Kd.V_far (p := ⟨gd, 1, none⟩) (Kd.V_far (p := ⟨gd, 0, none⟩) HV.out hfar (.slice A1 p1.length c1)) hfar (.bool p2))).2.2
  have n_DK := Aside0.mk ((blk_set (blk_set DK.out 0 (.slice A1 p1.length c1)) 1 (.bool p2)).trans (show _ = some (Obj.cells #[.slice A1 p1.length c1, .bool p2] 24 (0, 0)) from rfl))
  have n_SK := Aside0.mk ((Below.heap_setCell _ ⟨gd, 1, none⟩ (.bool p2) gs hne).trans ((Below.heap_setCell _ ⟨gd, 0, none⟩ (.slice A1 p1.length c1) gs hne).trans SK.out))
  have n_HB := Aside0.mk (below_set (j := 1) (v := .bool p2) (below_set (j := 0) (v := .slice A1 p1.length c1) HB.out GD.out) GD.out)
  clear DK SK HB HV hd0 hd1 hdf0 hdf1 hs0 hs1 hs2 hs3 hfar hne HX HC HL
  generalize ((w7.setCell ⟨gd, 0, none⟩ (.slice A1 p1.length c1)).setCell ⟨gd, 1, none⟩ (.bool p2)) = w8 at n_HC n_DK n_SK n_HB ⊢
  have DK := n_DK
  have SK := n_SK
  have HB := n_HB
  have HC1 := n_HC
  clear n_DK n_SK n_HB n_HC
  obtain ⟨hd0, hd1, hdf0, hdf1⟩ := bk2 DK.out
  obtain ⟨hs0, hs1, hs2, hs3, -, -, -, -⟩ := bk4 SK.out
  go_upto_region 3 with ((go_at_call 37; (with_reducible refine (span_Less.calls k A1 c1 p1 p2 s0 s1 s2 s3 L1 L2 _ HC1.out HL1.out HLE.out).mono ?_); rintro e w_ ⟨rfl, hb⟩; have n_DK := Aside0.mk (q01 DK.out hb); have n_SK := Aside0.mk (q01 SK.out hb); have n_HB := Aside0.mk (q02 HB.out hb); have n_HC := Aside0.mk (Kd.C_below HC1.out hb); clear hd0 hd1 hdf0 hdf1 hs0 hs1 hs2 hs3; clear DK SK HB HC1 hb; have DK := n_DK; have SK := n_SK; have HB := n_HB; have HC1 := n_HC; clear n_DK n_SK n_HB n_HC; obtain ⟨hd0, hd1, hdf0, hdf1⟩ := bk2 DK.out; obtain ⟨hs0, hs1, hs2, hs3, -, -, -, -⟩ := bk4 SK.out))
  go_upto_region 4 with ((go_at_call 38; (with_reducible refine (span_Text.calls k A1 c1 p1 p2 s0 s1 s2 s3 T1 T2 _ HC1.out HL1.out HTE.out).mono ?_); rintro e w_ ⟨rfl, hb⟩; have n_DK := Aside0.mk (q01 DK.out hb); have n_SK := Aside0.mk (q01 SK.out hb); have n_HB := Aside0.mk (q02 HB.out hb); have n_HC := Aside0.mk (Kd.C_below HC1.out hb); clear hd0 hd1 hdf0 hdf1 hs0 hs1 hs2 hs3; clear DK SK HB HC1 hb; have DK := n_DK; have SK := n_SK; have HB := n_HB; have HC1 := n_HC; clear n_DK n_SK n_HB n_HC; obtain ⟨hd0, hd1, hdf0, hdf1⟩ := bk2 DK.out; obtain ⟨hs0, hs1, hs2, hs3, -, -, -, -⟩ := bk4 SK.out))
  obtain ⟨e0, he0, hw⟩ := Option.bind_eq_some_iff.1 HW.out
  have HE0 := Aside0.mk he0
  have HW2 := Aside0.mk hw
  clear he0 hw HW
  go_upto_region 5 with ((go_at_call 17; (with_reducible refine (clerestoryref1_DocErr.calls k A1 c1 p1 p2 e0 _ HC1.out HL1.out HE0.out).mono ?_); rintro e w_ ⟨rfl, hb⟩; have n_DK := Aside0.mk (q01 DK.out hb); have n_SK := Aside0.mk (q01 SK.out hb); have n_HB := Aside0.mk (q02 HB.out hb); have n_HC := Aside0.mk (Kd.C_below HC1.out hb); clear hd0 hd1 hdf0 hdf1 hs0 hs1 hs2 hs3; clear DK SK HB HC1 hb; have DK := n_DK; have SK := n_SK; have HB := n_HB; have HC1 := n_HC; clear n_DK n_SK n_HB n_HC; obtain ⟨hd0, hd1, hdf0, hdf1⟩ := bk2 DK.out; obtain ⟨hs0, hs1, hs2, hs3, -, -, -, -⟩ := bk4 SK.out))
  have hw := HW2.out
  clear HW2
  by_cases z0 : e0 = 0
  rotate_left
  · have hw := (if_neg z0).symm.trans hw
    have zb : (e0 == 0) = false := beq_eq_false_iff_ne.mpr z0
    have e_ : L2 = e0 := (Option.some.inj hw).symm
    subst e_
    clear hw
    go_upto_region 9 with (fail)
    have zw := z0
    clear z0 zb
    go_upto_region 10 with ((go_at_call 33; (with_reducible refine (clerestoryref1_SpanErr.calls k A1 c1 p1 p2 s0 s1 s2 s3 T2 _ HC1.out HL1.out HVE.out).mono ?_); rintro e w_ ⟨rfl, hb⟩; have n_DK := Aside0.mk (q01 DK.out hb); have n_SK := Aside0.mk (q01 SK.out hb); have n_HB := Aside0.mk (q02 HB.out hb); have n_HC := Aside0.mk (Kd.C_below HC1.out hb); clear hd0 hd1 hdf0 hdf1 hs0 hs1 hs2 hs3; clear DK SK HB HC1 hb; have DK := n_DK; have SK := n_SK; have HB := n_HB; have HC1 := n_HC; clear n_DK n_SK n_HB n_HC; obtain ⟨hd0, hd1, hdf0, hdf1⟩ := bk2 DK.out; obtain ⟨hs0, hs1, hs2, hs3, -, -, -, -⟩ := bk4 SK.out))
    have hs := HSS.out
    clear HSS
    have hs := (if_neg zw).symm.trans hs
    have zwb : (L2 == 0) = false := beq_eq_false_iff_ne.mpr zw
    obtain rfl := Option.some.inj hs
    clear hs zw
    go_upto_region 12 with (fail)
    have ht := HTX.out
    clear HTX
    by_cases zv : T2 = 0
    · have ht := (if_pos zv).symm.trans ht
      have zvb : (T2 == 0) = true := beq_iff_eq.mpr zv
      have HTX2 := Aside0.mk ht
      clear ht zv
      go_upto_region 14 with ((go_at_call 40; (with_reducible refine (clerestoryref1_SpanText.calls k A1 c1 p1 p2 s0 s1 s2 s3 t _ HC1.out HL1.out HTX2.out).mono ?_); rintro e w_ ⟨rfl, hb⟩; have n_DK := Aside0.mk (q01 DK.out hb); have n_SK := Aside0.mk (q01 SK.out hb); have n_HB := Aside0.mk (q02 HB.out hb); have n_HC := Aside0.mk (Kd.C_below HC1.out hb); clear hd0 hd1 hdf0 hdf1 hs0 hs1 hs2 hs3; clear DK SK HB HC1 hb; have DK := n_DK; have SK := n_SK; have HB := n_HB; have HC1 := n_HC; clear n_DK n_SK n_HB n_HC; obtain ⟨hd0, hd1, hdf0, hdf1⟩ := bk2 DK.out; obtain ⟨hs0, hs1, hs2, hs3, -, -, -, -⟩ := bk4 SK.out))
      go_wp2_with (first | (go_at_call 35; (with_reducible refine (clerestorylaw1_spanBegun.calls k true _ HG.out).mono ?_); rintro e w_ ⟨rfl, hb⟩; have n_DK := Aside0.mk (q01 DK.out hb); have n_SK := Aside0.mk (q01 SK.out hb); have n_HB := Aside0.mk (q02 HB.out hb); have n_HC := Aside0.mk (Kd.C_below HC1.out hb); clear hd0 hd1 hdf0 hdf1 hs0 hs1 hs2 hs3; clear DK SK HB HC1 hb; have DK := n_DK; have SK := n_SK; have HB := n_HB; have HC1 := n_HC; clear n_DK n_SK n_HB n_HC; obtain ⟨hd0, hd1, hdf0, hdf1⟩ := bk2 DK.out; obtain ⟨hs0, hs1, hs2, hs3, -, -, -, -⟩ := bk4 SK.out) | (go_at_call 41; (with_reducible refine (span_Check.calls k A1 c1 p1 p2 s0 s1 s2 s3 T2 _ HC1.out HL1.out HCH.out).mono ?_); rintro e w_ ⟨rfl, hb⟩; have n_DK := Aside0.mk (q01 DK.out hb); have n_SK := Aside0.mk (q01 SK.out hb); have n_HB := Aside0.mk (q02 HB.out hb); have n_HC := Aside0.mk (Kd.C_below HC1.out hb); clear hd0 hd1 hdf0 hdf1 hs0 hs1 hs2 hs3; clear DK SK HB HC1 hb; have DK := n_DK; have SK := n_SK; have HB := n_HB; have HC1 := n_HC; clear n_DK n_SK n_HB n_HC; obtain ⟨hd0, hd1, hdf0, hdf1⟩ := bk2 DK.out; obtain ⟨hs0, hs1, hs2, hs3, -, -, -, -⟩ := bk4 SK.out))
      go_ret
      exact ⟨rfl, HB.out⟩
    · have ht := (if_neg zv).symm.trans ht
      have zvb : (T2 == 0) = false := beq_eq_false_iff_ne.mpr zv
      obtain rfl := Option.some.inj ht
      clear ht zv
      go_upto_region 14 with (fail)
      go_wp2_with (first | (go_at_call 35; (with_reducible refine (clerestorylaw1_spanBegun.calls k true _ HG.out).mono ?_); rintro e w_ ⟨rfl, hb⟩; have n_DK := Aside0.mk (q01 DK.out hb); have n_SK := Aside0.mk (q01 SK.out hb); have n_HB := Aside0.mk (q02 HB.out hb); have n_HC := Aside0.mk (Kd.C_below HC1.out hb); clear hd0 hd1 hdf0 hdf1 hs0 hs1 hs2 hs3; clear DK SK HB HC1 hb; have DK := n_DK; have SK := n_SK; have HB := n_HB; have HC1 := n_HC; clear n_DK n_SK n_HB n_HC; obtain ⟨hd0, hd1, hdf0, hdf1⟩ := bk2 DK.out; obtain ⟨hs0, hs1, hs2, hs3, -, -, -, -⟩ := bk4 SK.out) | (go_at_call 41; (with_reducible refine (span_Check.calls k A1 c1 p1 p2 s0 s1 s2 s3 T2 _ HC1.out HL1.out HCH.out).mono ?_); rintro e w_ ⟨rfl, hb⟩; have n_DK := Aside0.mk (q01 DK.out hb); have n_SK := Aside0.mk (q01 SK.out hb); have n_HB := Aside0.mk (q02 HB.out hb); have n_HC := Aside0.mk (Kd.C_below HC1.out hb); clear hd0 hd1 hdf0 hdf1 hs0 hs1 hs2 hs3; clear DK SK HB HC1 hb; have DK := n_DK; have SK := n_SK; have HB := n_HB; have HC1 := n_HC; clear n_DK n_SK n_HB n_HC; obtain ⟨hd0, hd1, hdf0, hdf1⟩ := bk2 DK.out; obtain ⟨hs0, hs1, hs2, hs3, -, -, -, -⟩ := bk4 SK.out))
      go_ret
      exact ⟨rfl, HB.out⟩
  · rw [if_pos z0] at hw
    subst z0
    obtain ⟨e1, he1, hw⟩ := Option.bind_eq_some_iff.1 hw
    have HE1 := Aside0.mk he1
    have HW3 := Aside0.mk hw
    clear he1 hw
    go_upto_region 7 with ((go_at_call 39; (with_reducible refine (clerestoryref1_PointErr.calls k A1 c1 p1 p2 s0 s1 e1 _ HC1.out HL1.out HE1.out).mono ?_); rintro e w_ ⟨rfl, hb⟩; have n_DK := Aside0.mk (q01 DK.out hb); have n_SK := Aside0.mk (q01 SK.out hb); have n_HB := Aside0.mk (q02 HB.out hb); have n_HC := Aside0.mk (Kd.C_below HC1.out hb); clear hd0 hd1 hdf0 hdf1 hs0 hs1 hs2 hs3; clear DK SK HB HC1 hb; have DK := n_DK; have SK := n_SK; have HB := n_HB; have HC1 := n_HC; clear n_DK n_SK n_HB n_HC; obtain ⟨hd0, hd1, hdf0, hdf1⟩ := bk2 DK.out; obtain ⟨hs0, hs1, hs2, hs3, -, -, -, -⟩ := bk4 SK.out))
    have hw := HW3.out
    clear HW3
    by_cases z1 : e1 = 0
    rotate_left
    · have hw := (if_neg z1).symm.trans hw
      have zb : (e1 == 0) = false := beq_eq_false_iff_ne.mpr z1
      have e_ : L2 = e1 := (Option.some.inj hw).symm
      subst e_
      clear hw
      go_upto_region 9 with (fail)
      have zw := z1
      clear z1 zb
      go_upto_region 10 with ((go_at_call 33; (with_reducible refine (clerestoryref1_SpanErr.calls k A1 c1 p1 p2 s0 s1 s2 s3 T2 _ HC1.out HL1.out HVE.out).mono ?_); rintro e w_ ⟨rfl, hb⟩; have n_DK := Aside0.mk (q01 DK.out hb); have n_SK := Aside0.mk (q01 SK.out hb); have n_HB := Aside0.mk (q02 HB.out hb); have n_HC := Aside0.mk (Kd.C_below HC1.out hb); clear hd0 hd1 hdf0 hdf1 hs0 hs1 hs2 hs3; clear DK SK HB HC1 hb; have DK := n_DK; have SK := n_SK; have HB := n_HB; have HC1 := n_HC; clear n_DK n_SK n_HB n_HC; obtain ⟨hd0, hd1, hdf0, hdf1⟩ := bk2 DK.out; obtain ⟨hs0, hs1, hs2, hs3, -, -, -, -⟩ := bk4 SK.out))
      have hs := HSS.out
      clear HSS
      have hs := (if_neg zw).symm.trans hs
      have zwb : (L2 == 0) = false := beq_eq_false_iff_ne.mpr zw
      obtain rfl := Option.some.inj hs
      clear hs zw
      go_upto_region 12 with (fail)
      have ht := HTX.out
      clear HTX
      by_cases zv : T2 = 0
      · have ht := (if_pos zv).symm.trans ht
        have zvb : (T2 == 0) = true := beq_iff_eq.mpr zv
        have HTX2 := Aside0.mk ht
        clear ht zv
        go_upto_region 14 with ((go_at_call 40; (with_reducible refine (clerestoryref1_SpanText.calls k A1 c1 p1 p2 s0 s1 s2 s3 t _ HC1.out HL1.out HTX2.out).mono ?_); rintro e w_ ⟨rfl, hb⟩; have n_DK := Aside0.mk (q01 DK.out hb); have n_SK := Aside0.mk (q01 SK.out hb); have n_HB := Aside0.mk (q02 HB.out hb); have n_HC := Aside0.mk (Kd.C_below HC1.out hb); clear hd0 hd1 hdf0 hdf1 hs0 hs1 hs2 hs3; clear DK SK HB HC1 hb; have DK := n_DK; have SK := n_SK; have HB := n_HB; have HC1 := n_HC; clear n_DK n_SK n_HB n_HC; obtain ⟨hd0, hd1, hdf0, hdf1⟩ := bk2 DK.out; obtain ⟨hs0, hs1, hs2, hs3, -, -, -, -⟩ := bk4 SK.out))
        go_wp2_with (first | (go_at_call 35; (with_reducible refine (clerestorylaw1_spanBegun.calls k true _ HG.out).mono ?_); rintro e w_ ⟨rfl, hb⟩; have n_DK := Aside0.mk (q01 DK.out hb); have n_SK := Aside0.mk (q01 SK.out hb); have n_HB := Aside0.mk (q02 HB.out hb); have n_HC := Aside0.mk (Kd.C_below HC1.out hb); clear hd0 hd1 hdf0 hdf1 hs0 hs1 hs2 hs3; clear DK SK HB HC1 hb; have DK := n_DK; have SK := n_SK; have HB := n_HB; have HC1 := n_HC; clear n_DK n_SK n_HB n_HC; obtain ⟨hd0, hd1, hdf0, hdf1⟩ := bk2 DK.out; obtain ⟨hs0, hs1, hs2, hs3, -, -, -, -⟩ := bk4 SK.out) | (go_at_call 41; (with_reducible refine (span_Check.calls k A1 c1 p1 p2 s0 s1 s2 s3 T2 _ HC1.out HL1.out HCH.out).mono ?_); rintro e w_ ⟨rfl, hb⟩; have n_DK := Aside0.mk (q01 DK.out hb); have n_SK := Aside0.mk (q01 SK.out hb); have n_HB := Aside0.mk (q02 HB.out hb); have n_HC := Aside0.mk (Kd.C_below HC1.out hb); clear hd0 hd1 hdf0 hdf1 hs0 hs1 hs2 hs3; clear DK SK HB HC1 hb; have DK := n_DK; have SK := n_SK; have HB := n_HB; have HC1 := n_HC; clear n_DK n_SK n_HB n_HC; obtain ⟨hd0, hd1, hdf0, hdf1⟩ := bk2 DK.out; obtain ⟨hs0, hs1, hs2, hs3, -, -, -, -⟩ := bk4 SK.out))
        go_ret
        exact ⟨rfl, HB.out⟩
      · have ht := (if_neg zv).symm.trans ht
        have zvb : (T2 == 0) = false := beq_eq_false_iff_ne.mpr zv
        obtain rfl := Option.some.inj ht
        clear ht zv
        go_upto_region 14 with (fail)
        go_wp2_with (first | (go_at_call 35; (with_reducible refine (clerestorylaw1_spanBegun.calls k true _ HG.out).mono ?_); rintro e w_ ⟨rfl, hb⟩; have n_DK := Aside0.mk (q01 DK.out hb); have n_SK := Aside0.mk (q01 SK.out hb); have n_HB := Aside0.mk (q02 HB.out hb); have n_HC := Aside0.mk (Kd.C_below HC1.out hb); clear hd0 hd1 hdf0 hdf1 hs0 hs1 hs2 hs3; clear DK SK HB HC1 hb; have DK := n_DK; have SK := n_SK; have HB := n_HB; have HC1 := n_HC; clear n_DK n_SK n_HB n_HC; obtain ⟨hd0, hd1, hdf0, hdf1⟩ := bk2 DK.out; obtain ⟨hs0, hs1, hs2, hs3, -, -, -, -⟩ := bk4 SK.out) | (go_at_call 41; (with_reducible refine (span_Check.calls k A1 c1 p1 p2 s0 s1 s2 s3 T2 _ HC1.out HL1.out HCH.out).mono ?_); rintro e w_ ⟨rfl, hb⟩; have n_DK := Aside0.mk (q01 DK.out hb); have n_SK := Aside0.mk (q01 SK.out hb); have n_HB := Aside0.mk (q02 HB.out hb); have n_HC := Aside0.mk (Kd.C_below HC1.out hb); clear hd0 hd1 hdf0 hdf1 hs0 hs1 hs2 hs3; clear DK SK HB HC1 hb; have DK := n_DK; have SK := n_SK; have HB := n_HB; have HC1 := n_HC; clear n_DK n_SK n_HB n_HC; obtain ⟨hd0, hd1, hdf0, hdf1⟩ := bk2 DK.out; obtain ⟨hs0, hs1, hs2, hs3, -, -, -, -⟩ := bk4 SK.out))
        go_ret
        exact ⟨rfl, HB.out⟩
    · rw [if_pos z1] at hw
      subst z1
      have HE2 := Aside0.mk hw
      clear hw
      go_upto_region 9 with ((go_at_call 39; (with_reducible refine (clerestoryref1_PointErr.calls k A1 c1 p1 p2 s2 s3 L2 _ HC1.out HL1.out HE2.out).mono ?_); rintro e w_ ⟨rfl, hb⟩; have n_DK := Aside0.mk (q01 DK.out hb); have n_SK := Aside0.mk (q01 SK.out hb); have n_HB := Aside0.mk (q02 HB.out hb); have n_HC := Aside0.mk (Kd.C_below HC1.out hb); clear hd0 hd1 hdf0 hdf1 hs0 hs1 hs2 hs3; clear DK SK HB HC1 hb; have DK := n_DK; have SK := n_SK; have HB := n_HB; have HC1 := n_HC; clear n_DK n_SK n_HB n_HC; obtain ⟨hd0, hd1, hdf0, hdf1⟩ := bk2 DK.out; obtain ⟨hs0, hs1, hs2, hs3, -, -, -, -⟩ := bk4 SK.out))
      go_upto_region 10 with ((go_at_call 33; (with_reducible refine (clerestoryref1_SpanErr.calls k A1 c1 p1 p2 s0 s1 s2 s3 T2 _ HC1.out HL1.out HVE.out).mono ?_); rintro e w_ ⟨rfl, hb⟩; have n_DK := Aside0.mk (q01 DK.out hb); have n_SK := Aside0.mk (q01 SK.out hb); have n_HB := Aside0.mk (q02 HB.out hb); have n_HC := Aside0.mk (Kd.C_below HC1.out hb); clear hd0 hd1 hdf0 hdf1 hs0 hs1 hs2 hs3; clear DK SK HB HC1 hb; have DK := n_DK; have SK := n_SK; have HB := n_HB; have HC1 := n_HC; clear n_DK n_SK n_HB n_HC; obtain ⟨hd0, hd1, hdf0, hdf1⟩ := bk2 DK.out; obtain ⟨hs0, hs1, hs2, hs3, -, -, -, -⟩ := bk4 SK.out))
      have hs := HSS.out
      clear HSS
      by_cases zw : L2 = 0
      · have hs := (if_pos zw).symm.trans hs
        have zwb : (L2 == 0) = true := beq_iff_eq.mpr zw
        obtain ⟨z, hz, hs⟩ := Option.bind_eq_some_iff.1 hs
        have HZ := Aside0.mk hz
        obtain rfl := Option.some.inj hs
        clear hs hz zw
        go_upto_region 12 with ((go_at_call 33; (with_reducible refine (clerestoryref1_SpanErr.calls k A1 c1 p1 p2 s2 s3 s0 s1 z _ HC1.out HL1.out HZ.out).mono ?_); rintro e w_ ⟨rfl, hb⟩; have n_DK := Aside0.mk (q01 DK.out hb); have n_SK := Aside0.mk (q01 SK.out hb); have n_HB := Aside0.mk (q02 HB.out hb); have n_HC := Aside0.mk (Kd.C_below HC1.out hb); clear hd0 hd1 hdf0 hdf1 hs0 hs1 hs2 hs3; clear DK SK HB HC1 hb; have DK := n_DK; have SK := n_SK; have HB := n_HB; have HC1 := n_HC; clear n_DK n_SK n_HB n_HC; obtain ⟨hd0, hd1, hdf0, hdf1⟩ := bk2 DK.out; obtain ⟨hs0, hs1, hs2, hs3, -, -, -, -⟩ := bk4 SK.out))
        have ht := HTX.out
        clear HTX
        by_cases zv : T2 = 0
        · have ht := (if_pos zv).symm.trans ht
          have zvb : (T2 == 0) = true := beq_iff_eq.mpr zv
          have HTX2 := Aside0.mk ht
          clear ht zv
          go_upto_region 14 with ((go_at_call 40; (with_reducible refine (clerestoryref1_SpanText.calls k A1 c1 p1 p2 s0 s1 s2 s3 t _ HC1.out HL1.out HTX2.out).mono ?_); rintro e w_ ⟨rfl, hb⟩; have n_DK := Aside0.mk (q01 DK.out hb); have n_SK := Aside0.mk (q01 SK.out hb); have n_HB := Aside0.mk (q02 HB.out hb); have n_HC := Aside0.mk (Kd.C_below HC1.out hb); clear hd0 hd1 hdf0 hdf1 hs0 hs1 hs2 hs3; clear DK SK HB HC1 hb; have DK := n_DK; have SK := n_SK; have HB := n_HB; have HC1 := n_HC; clear n_DK n_SK n_HB n_HC; obtain ⟨hd0, hd1, hdf0, hdf1⟩ := bk2 DK.out; obtain ⟨hs0, hs1, hs2, hs3, -, -, -, -⟩ := bk4 SK.out))
          go_wp2_with (first | (go_at_call 35; (with_reducible refine (clerestorylaw1_spanBegun.calls k true _ HG.out).mono ?_); rintro e w_ ⟨rfl, hb⟩; have n_DK := Aside0.mk (q01 DK.out hb); have n_SK := Aside0.mk (q01 SK.out hb); have n_HB := Aside0.mk (q02 HB.out hb); have n_HC := Aside0.mk (Kd.C_below HC1.out hb); clear hd0 hd1 hdf0 hdf1 hs0 hs1 hs2 hs3; clear DK SK HB HC1 hb; have DK := n_DK; have SK := n_SK; have HB := n_HB; have HC1 := n_HC; clear n_DK n_SK n_HB n_HC; obtain ⟨hd0, hd1, hdf0, hdf1⟩ := bk2 DK.out; obtain ⟨hs0, hs1, hs2, hs3, -, -, -, -⟩ := bk4 SK.out) | (go_at_call 41; (with_reducible refine (span_Check.calls k A1 c1 p1 p2 s0 s1 s2 s3 T2 _ HC1.out HL1.out HCH.out).mono ?_); rintro e w_ ⟨rfl, hb⟩; have n_DK := Aside0.mk (q01 DK.out hb); have n_SK := Aside0.mk (q01 SK.out hb); have n_HB := Aside0.mk (q02 HB.out hb); have n_HC := Aside0.mk (Kd.C_below HC1.out hb); clear hd0 hd1 hdf0 hdf1 hs0 hs1 hs2 hs3; clear DK SK HB HC1 hb; have DK := n_DK; have SK := n_SK; have HB := n_HB; have HC1 := n_HC; clear n_DK n_SK n_HB n_HC; obtain ⟨hd0, hd1, hdf0, hdf1⟩ := bk2 DK.out; obtain ⟨hs0, hs1, hs2, hs3, -, -, -, -⟩ := bk4 SK.out))
          go_ret
          exact ⟨rfl, HB.out⟩
        · have ht := (if_neg zv).symm.trans ht
          have zvb : (T2 == 0) = false := beq_eq_false_iff_ne.mpr zv
          obtain rfl := Option.some.inj ht
          clear ht zv
          go_upto_region 14 with (fail)
          go_wp2_with (first | (go_at_call 35; (with_reducible refine (clerestorylaw1_spanBegun.calls k true _ HG.out).mono ?_); rintro e w_ ⟨rfl, hb⟩; have n_DK := Aside0.mk (q01 DK.out hb); have n_SK := Aside0.mk (q01 SK.out hb); have n_HB := Aside0.mk (q02 HB.out hb); have n_HC := Aside0.mk (Kd.C_below HC1.out hb); clear hd0 hd1 hdf0 hdf1 hs0 hs1 hs2 hs3; clear DK SK HB HC1 hb; have DK := n_DK; have SK := n_SK; have HB := n_HB; have HC1 := n_HC; clear n_DK n_SK n_HB n_HC; obtain ⟨hd0, hd1, hdf0, hdf1⟩ := bk2 DK.out; obtain ⟨hs0, hs1, hs2, hs3, -, -, -, -⟩ := bk4 SK.out) | (go_at_call 41; (with_reducible refine (span_Check.calls k A1 c1 p1 p2 s0 s1 s2 s3 T2 _ HC1.out HL1.out HCH.out).mono ?_); rintro e w_ ⟨rfl, hb⟩; have n_DK := Aside0.mk (q01 DK.out hb); have n_SK := Aside0.mk (q01 SK.out hb); have n_HB := Aside0.mk (q02 HB.out hb); have n_HC := Aside0.mk (Kd.C_below HC1.out hb); clear hd0 hd1 hdf0 hdf1 hs0 hs1 hs2 hs3; clear DK SK HB HC1 hb; have DK := n_DK; have SK := n_SK; have HB := n_HB; have HC1 := n_HC; clear n_DK n_SK n_HB n_HC; obtain ⟨hd0, hd1, hdf0, hdf1⟩ := bk2 DK.out; obtain ⟨hs0, hs1, hs2, hs3, -, -, -, -⟩ := bk4 SK.out))
          go_ret
          exact ⟨rfl, HB.out⟩
      · have hs := (if_neg zw).symm.trans hs
        have zwb : (L2 == 0) = false := beq_eq_false_iff_ne.mpr zw
        obtain rfl := Option.some.inj hs
        clear hs zw
        go_upto_region 12 with (fail)
        have ht := HTX.out
        clear HTX
        by_cases zv : T2 = 0
        · have ht := (if_pos zv).symm.trans ht
          have zvb : (T2 == 0) = true := beq_iff_eq.mpr zv
          have HTX2 := Aside0.mk ht
          clear ht zv
          go_upto_region 14 with ((go_at_call 40; (with_reducible refine (clerestoryref1_SpanText.calls k A1 c1 p1 p2 s0 s1 s2 s3 t _ HC1.out HL1.out HTX2.out).mono ?_); rintro e w_ ⟨rfl, hb⟩; have n_DK := Aside0.mk (q01 DK.out hb); have n_SK := Aside0.mk (q01 SK.out hb); have n_HB := Aside0.mk (q02 HB.out hb); have n_HC := Aside0.mk (Kd.C_below HC1.out hb); clear hd0 hd1 hdf0 hdf1 hs0 hs1 hs2 hs3; clear DK SK HB HC1 hb; have DK := n_DK; have SK := n_SK; have HB := n_HB; have HC1 := n_HC; clear n_DK n_SK n_HB n_HC; obtain ⟨hd0, hd1, hdf0, hdf1⟩ := bk2 DK.out; obtain ⟨hs0, hs1, hs2, hs3, -, -, -, -⟩ := bk4 SK.out))
          go_wp2_with (first | (go_at_call 35; (with_reducible refine (clerestorylaw1_spanBegun.calls k true _ HG.out).mono ?_); rintro e w_ ⟨rfl, hb⟩; have n_DK := Aside0.mk (q01 DK.out hb); have n_SK := Aside0.mk (q01 SK.out hb); have n_HB := Aside0.mk (q02 HB.out hb); have n_HC := Aside0.mk (Kd.C_below HC1.out hb); clear hd0 hd1 hdf0 hdf1 hs0 hs1 hs2 hs3; clear DK SK HB HC1 hb; have DK := n_DK; have SK := n_SK; have HB := n_HB; have HC1 := n_HC; clear n_DK n_SK n_HB n_HC; obtain ⟨hd0, hd1, hdf0, hdf1⟩ := bk2 DK.out; obtain ⟨hs0, hs1, hs2, hs3, -, -, -, -⟩ := bk4 SK.out) | (go_at_call 41; (with_reducible refine (span_Check.calls k A1 c1 p1 p2 s0 s1 s2 s3 T2 _ HC1.out HL1.out HCH.out).mono ?_); rintro e w_ ⟨rfl, hb⟩; have n_DK := Aside0.mk (q01 DK.out hb); have n_SK := Aside0.mk (q01 SK.out hb); have n_HB := Aside0.mk (q02 HB.out hb); have n_HC := Aside0.mk (Kd.C_below HC1.out hb); clear hd0 hd1 hdf0 hdf1 hs0 hs1 hs2 hs3; clear DK SK HB HC1 hb; have DK := n_DK; have SK := n_SK; have HB := n_HB; have HC1 := n_HC; clear n_DK n_SK n_HB n_HC; obtain ⟨hd0, hd1, hdf0, hdf1⟩ := bk2 DK.out; obtain ⟨hs0, hs1, hs2, hs3, -, -, -, -⟩ := bk4 SK.out))
          go_ret
          exact ⟨rfl, HB.out⟩
        · have ht := (if_neg zv).symm.trans ht
          have zvb : (T2 == 0) = false := beq_eq_false_iff_ne.mpr zv
          obtain rfl := Option.some.inj ht
          clear ht zv
          go_upto_region 14 with (fail)
          go_wp2_with (first | (go_at_call 35; (with_reducible refine (clerestorylaw1_spanBegun.calls k true _ HG.out).mono ?_); rintro e w_ ⟨rfl, hb⟩; have n_DK := Aside0.mk (q01 DK.out hb); have n_SK := Aside0.mk (q01 SK.out hb); have n_HB := Aside0.mk (q02 HB.out hb); have n_HC := Aside0.mk (Kd.C_below HC1.out hb); clear hd0 hd1 hdf0 hdf1 hs0 hs1 hs2 hs3; clear DK SK HB HC1 hb; have DK := n_DK; have SK := n_SK; have HB := n_HB; have HC1 := n_HC; clear n_DK n_SK n_HB n_HC; obtain ⟨hd0, hd1, hdf0, hdf1⟩ := bk2 DK.out; obtain ⟨hs0, hs1, hs2, hs3, -, -, -, -⟩ := bk4 SK.out) | (go_at_call 41; (with_reducible refine (span_Check.calls k A1 c1 p1 p2 s0 s1 s2 s3 T2 _ HC1.out HL1.out HCH.out).mono ?_); rintro e w_ ⟨rfl, hb⟩; have n_DK := Aside0.mk (q01 DK.out hb); have n_SK := Aside0.mk (q01 SK.out hb); have n_HB := Aside0.mk (q02 HB.out hb); have n_HC := Aside0.mk (Kd.C_below HC1.out hb); clear hd0 hd1 hdf0 hdf1 hs0 hs1 hs2 hs3; clear DK SK HB HC1 hb; have DK := n_DK; have SK := n_SK; have HB := n_HB; have HC1 := n_HC; clear n_DK n_SK n_HB n_HC; obtain ⟨hd0, hd1, hdf0, hdf1⟩ := bk2 DK.out; obtain ⟨hs0, hs1, hs2, hs3, -, -, -, -⟩ := bk4 SK.out))
          go_ret
          exact ⟨rfl, HB.out⟩
end Go.Proofs.YthjnallbbhnndaaDoor.XSp
namespace Go.Proofs.YthjnallbbhnndaaDoor.XSp
open Go.Proofs.YthjnallbbhnndaaDoor.Short Go.RowKit Go.Proofs.YthjnallbbhnndaaDoorW.PrintWords Go.Proofs.YthjnallbbhnndaaDoorW.PrintLast Go.Proofs.YthjnallbbhnndaaDoor
def ok122 (x_ : S122) : Prop := (fun x_ : ByteArray => x_.size ≤ reachBytes) x_.f0 ∧ (fun x_ : ByteArray => x_.size ≤ reachBytes) x_.f1
theorem rd122 : Rd.Reads Tryd.prog 122 k122 ok122 :=
  ((Rd.reads_struct Tryd.underlying122 (by kernel_rfl) (Rd.readsF_cons rfl (Rd.reads_string Tryd.underlying9 (by kernel_rfl)) (Rd.readsF_one rfl (Rd.reads_string Tryd.underlying9 (by kernel_rfl))))).iso (fun x : S122 => (x.f0, x.f1)) (fun p_ => ⟨p_.1, p_.2⟩) (fun _ => rfl)).imp (fun _ h_ => h_)
def ok43 (x_ : S43) : Prop := (fun x_ : Int => (Lit.int .i64 x_).wf = true) x_.f0 ∧ (fun x_ : ByteArray => x_.size ≤ reachBytes) x_.f1 ∧ (fun l_ : List (S122) => l_.length * 32 ≤ reachBytes ∧ l_.length ≤ 9223372036854775807 ∧ ∀ a ∈ l_, ok122 a) x_.f2 ∧ (fun x_ : ByteArray => x_.size ≤ reachBytes) x_.f3 ∧ (fun x_ : Int => (Lit.int .i64 x_).wf = true) x_.f4 ∧ (fun l_ : List Int => l_.length * 8 ≤ reachBytes ∧ l_.length ≤ 9223372036854775807 ∧ ∀ a ∈ l_, (fun x_ : Int => (Lit.int .i64 x_).wf = true) a) x_.f5
theorem rd43 : Rd.Reads Tryd.prog 43 k43 ok43 :=
  ((Rd.reads_struct Tryd.underlying43 (by kernel_rfl) (Rd.readsF_cons rfl (Rd.reads_int Tryd.underlying3 (by kernel_rfl)) (Rd.readsF_cons rfl (Rd.reads_string Tryd.underlying9 (by kernel_rfl)) (Rd.readsF_cons rfl (show Rd.Reads Tryd.prog 41 (Kd.slice 122 k122) (fun l_ : List (S122) => l_.length * 32 ≤ reachBytes ∧ l_.length ≤ 9223372036854775807 ∧ ∀ a ∈ l_, ok122 a) from (Rd.reads_slice Tryd.underlying41 (by kernel_rfl) rd122).imp (fun l_ h_ => ⟨(show Tryd.prog.bytesOf 122 = 32 from by kernel_rfl) ▸ h_.1, h_.2⟩)) (Rd.readsF_cons rfl (Rd.reads_string Tryd.underlying9 (by kernel_rfl)) (Rd.readsF_cons rfl (Rd.reads_int Tryd.underlying3 (by kernel_rfl)) (Rd.readsF_one rfl (show Rd.Reads Tryd.prog 31 (Kd.slice 3 (Kd.int .i64)) (fun l_ : List Int => l_.length * 8 ≤ reachBytes ∧ l_.length ≤ 9223372036854775807 ∧ ∀ a ∈ l_, (fun x_ : Int => (Lit.int .i64 x_).wf = true) a) from (Rd.reads_slice Tryd.underlying31 (by kernel_rfl) (Rd.reads_int Tryd.underlying3 (by kernel_rfl))).imp (fun l_ h_ => ⟨(show Tryd.prog.bytesOf 3 = 8 from by kernel_rfl) ▸ h_.1, h_.2⟩))))))))).iso (fun x : S43 => (x.f0, x.f1, x.f2, x.f3, x.f4, x.f5)) (fun p_ => ⟨p_.1, p_.2.1, p_.2.2.1, p_.2.2.2.1, p_.2.2.2.2.1, p_.2.2.2.2.2⟩) (fun _ => rfl)).imp (fun _ h_ => h_)
def ok24 (x_ : S24) : Prop := (fun l_ : List (S43) => l_.length * 96 ≤ reachBytes ∧ l_.length ≤ 9223372036854775807 ∧ ∀ a ∈ l_, ok43 a) x_.f0 ∧ (fun _ : Bool => True) x_.f1
theorem rd24 : Rd.Reads Tryd.prog 24 k24 ok24 :=
  ((Rd.reads_struct Tryd.underlying24 (by kernel_rfl) (Rd.readsF_cons rfl (show Rd.Reads Tryd.prog 22 (Kd.slice 43 k43) (fun l_ : List (S43) => l_.length * 96 ≤ reachBytes ∧ l_.length ≤ 9223372036854775807 ∧ ∀ a ∈ l_, ok43 a) from (Rd.reads_slice Tryd.underlying22 (by kernel_rfl) rd43).imp (fun l_ h_ => ⟨(show Tryd.prog.bytesOf 43 = 96 from by kernel_rfl) ▸ h_.1, h_.2⟩)) (Rd.readsF_one rfl (Rd.reads_bool Tryd.underlying4 (by kernel_rfl))))).iso (fun x : S24 => (x.f0, x.f1)) (fun p_ => ⟨p_.1, p_.2⟩) (fun _ => rfl)).imp (fun _ h_ => h_)
def ok50 (x_ : S50) : Prop := (fun x_ : Int => (Lit.int .i64 x_).wf = true) x_.f0 ∧ (fun x_ : Int => (Lit.int .i64 x_).wf = true) x_.f1
theorem rd50 : Rd.Reads Tryd.prog 50 k50 ok50 :=
  ((Rd.reads_struct Tryd.underlying50 (by kernel_rfl) (Rd.readsF_cons rfl (Rd.reads_int Tryd.underlying3 (by kernel_rfl)) (Rd.readsF_one rfl (Rd.reads_int Tryd.underlying3 (by kernel_rfl))))).iso (fun x : S50 => (x.f0, x.f1)) (fun p_ => ⟨p_.1, p_.2⟩) (fun _ => rfl)).imp (fun _ h_ => h_)
def ok52 (x_ : S52) : Prop := ok50 x_.f0 ∧ ok50 x_.f1
theorem rd52 : Rd.Reads Tryd.prog 52 k52 ok52 :=
  ((Rd.reads_struct Tryd.underlying52 (by kernel_rfl) (Rd.readsF_cons rfl rd50 (Rd.readsF_one rfl rd50))).iso (fun x : S52 => (x.f0, x.f1)) (fun p_ => ⟨p_.1, p_.2⟩) (fun _ => rfl)).imp (fun _ h_ => h_)
def clerestorylaw1_SpanPoints.Pure : Prop := ∀ (l0_0 : List (S43)) (a0_1 : Bool) (a1_0 : Int) (a1_1 : Int) (a1_2 : Int) (a1_3 : Int), (fun l_ : List (S43) => l_.length * 96 ≤ reachBytes ∧ l_.length ≤ 9223372036854775807 ∧ ∀ a ∈ l_, ok43 a) l0_0 → (fun _ : Bool => True) a0_1 → (fun x_ : Int => (Lit.int .i64 x_).wf = true) a1_0 → (fun x_ : Int => (Lit.int .i64 x_).wf = true) a1_1 → (fun x_ : Int => (Lit.int .i64 x_).wf = true) a1_2 → (fun x_ : Int => (Lit.int .i64 x_).wf = true) a1_3 → ∃ k, clerestorylaw1_SpanPoints.f k l0_0 a0_1 a1_0 a1_1 a1_2 a1_3 = some true
end Go.Proofs.YthjnallbbhnndaaDoor.XSp
namespace Go.Proofs.YthjnallbbhnndaaDoor.Dm
open Go Go.RowKit Go.Proofs.YthjnallbbhnndaaDoor.XSp Go.Proofs.YthjnallbbhnndaaDoorW.PrintWords Go.Proofs.YthjnallbbhnndaaDoorW.PrintLast Go.Proofs.YthjnallbbhnndaaDoorW.PrintMore
set_option maxRecDepth 100000
theorem few_of_form (l0 : List S43) (q : Bool) (most : Int) (hm : 0 ≤ most ∧ most ≤ 1000) (hl : l0.length * 96 ≤ reachBytes ∧ l0.length ≤ 9223372036854775807 ∧ ∀ a ∈ l0, ok43 a) :
    ∃ ns, clerestorylaw1_few.f l0 q most = some (ns, q) ∧ (ns.length : Int) ≤ most ∧ SmallN ns ∧ KidsLe ns 17592186044416 := by
  obtain ⟨ns, hns⟩ : ∃ ns, l0.take (mn (l0.length : Int) most).toNat = ns := ⟨_, rfl⟩
  have hmn : 0 ≤ mn (l0.length : Int) most ∧ mn (l0.length : Int) most ≤ (l0.length : Int) ∧ mn (l0.length : Int) most ≤ most := by unfold mn; split <;> omega
  refine ⟨ns, ?_, by rw [← hns, List.length_take]; omega, ?_⟩
  · unfold clerestorylaw1_few.f
    rw [if_pos hmn.1, if_pos hmn.2.1, hns]
  have hok : ∀ a ∈ ns, ok43 a := fun a ha => hl.2.2 a (by rw [← hns] at ha; exact List.mem_of_mem_take ha)
  have hz : smallA (z43).f2 ∧ (z43).f1.size ≤ 140737488355328 ∧ (z43).f5.length ≤ 17592186044416 := ⟨fun x hx => by simp [z43] at hx, by decide, by decide⟩
  have hall : ∀ i : Int, smallA (q00 ns i).f2 ∧ (q00 ns i).f1.size ≤ 140737488355328 ∧ (q00 ns i).f5.length ≤ 17592186044416 := by
    intro i
    unfold q00
    by_cases c : i.toNat < ns.length
    · have e : ns.getD i.toNat z43 = ns[i.toNat] := by simp [List.getD, c]
      rw [e]
      obtain ⟨_, h1, h2, _, _, h5⟩ := hok _ (List.getElem_mem c)
      unfold reachBytes at h1 h2 h5
      refine ⟨fun x hx => ?_, by omega, by have := h5.1; omega⟩
      have := (h2.2.2 x hx).1
      unfold reachBytes at this
      omega
    · have e : ns.getD i.toNat z43 = z43 := by simp [List.getD, c]
      rw [e]
      exact hz
  exact ⟨fun i => ⟨(hall i).1, (hall i).2.1⟩, fun i => (hall i).2.2⟩
theorem both_check (ns : List S43) (q : Bool) (hS : SmallN ns) (hK : KidsLe ns 17592186044416) : ∃ K, ∀ k, K < k → dom_Check.f k ns q = some (docE ns) ∧ clerestoryref1_DocErr.f k ns q = some (docE ns) :=
  ⟨2 * ns.length + rounds ns 17592186044416, fun k hk => ⟨check_eq ns q hS 17592186044416 (by decide) hK k hk, docErr_eq ns q 17592186044416 (by decide) hK k hk⟩⟩
end Go.Proofs.YthjnallbbhnndaaDoor.Dm
namespace Go.Proofs.YthjnallbbhnndaaDoor.Dm
open Go Go.RowKit Go.Proofs.YthjnallbbhnndaaDoor.XSp Go.Proofs.YthjnallbbhnndaaDoorW.PrintWords Go.Proofs.YthjnallbbhnndaaDoorW.PrintLast Go.Proofs.YthjnallbbhnndaaDoorW.PrintMore
set_option maxRecDepth 100000
theorem some_cut (a : ByteArray) : ∃ t, clerestorylaw1_some.f a 30 = some t := by
  have hmn : 0 ≤ mn (a.size : Int) 30 ∧ mn (a.size : Int) 30 ≤ (a.size : Int) := by unfold mn; split <;> omega
  unfold clerestorylaw1_some.f
  rw [if_pos hmn.1, if_pos hmn.2]
  exact ⟨_, rfl⟩
theorem brief_l0 (n0 : List S43) (q : Bool) (d : Nat) : ∀ (i : Nat) (x : List S43), i + d = x.length → x.length ≤ 1000 → SmallN x → KidsLe x 17592186044416 →
    ∃ ns, (∀ k, d < k → clerestorylaw1_brief.l0 k x (i : Int) n0 q = some (ns, q)) ∧ ns.length = x.length ∧ SmallN ns ∧ KidsLe ns 17592186044416 := by
  induction d with
  | zero =>
    intro i x hi hl hS hK
    refine ⟨x, fun k hk => ?_, rfl, hS, hK⟩
    obtain ⟨k, rfl⟩ : ∃ z, k = z + 1 := ⟨k - 1, by omega⟩
    rw [clerestorylaw1_brief.l0, if_neg (by omega)]
  | succ d ih =>
    intro i x hi hl hS hK
    obtain ⟨t, ht⟩ := some_cut (q00 x (i : Int)).f3
    have hrd : ∀ j : Int, q00 (x.set i ⟨(q00 x i).f0, (q00 x i).f1, (q00 x i).f2, t, (q00 x i).f4, (q00 x i).f5⟩) j = ⟨(q00 x i).f0, (q00 x i).f1, (q00 x i).f2, t, (q00 x i).f4, (q00 x i).f5⟩ ∨ q00 (x.set i ⟨(q00 x i).f0, (q00 x i).f1, (q00 x i).f2, t, (q00 x i).f4, (q00 x i).f5⟩) j = q00 x j := fun j => by
      unfold q00
      simp only [List.getD_eq_getElem?_getD, List.getElem?_set]
      by_cases e : i = j.toNat
      · rw [if_pos e, if_pos (by omega)]
        exact .inl rfl
      · rw [if_neg e]
        exact .inr rfl
    obtain ⟨ns, h1, h2, h3, h4⟩ := ih (i + 1) (x.set i ⟨(q00 x i).f0, (q00 x i).f1, (q00 x i).f2, t, (q00 x i).f4, (q00 x i).f5⟩) (by rw [List.length_set]; omega) (by rw [List.length_set]; exact hl)
      (fun j => by
        rcases hrd j with e | e
        · rw [e]; exact hS i
        · rw [e]; exact hS j)
      (fun j => by
        unfold kidL
        rcases hrd j with e | e
        · rw [e]; exact hK i
        · rw [e]; exact hK j)
    refine ⟨ns, fun k hk => ?_, by rw [h2, List.length_set], h3, h4⟩
    obtain ⟨k, rfl⟩ : ∃ z, k = z + 1 := ⟨k - 1, by omega⟩
    rw [clerestorylaw1_brief.l0, if_pos (by omega), if_pos (by omega), ht, Option.bind_some, w1 i (by omega)]
    exact h1 k (by omega)
theorem brief_of_form (l0 : List S43) (q : Bool) (hl : l0.length * 96 ≤ reachBytes ∧ l0.length ≤ 9223372036854775807 ∧ ∀ a ∈ l0, ok43 a) :
    ∃ ns, (∀ k, 30 < k → clerestorylaw1_brief.f k l0 q = some (ns, q)) ∧ ns.length ≤ 25 ∧ SmallN ns ∧ KidsLe ns 17592186044416 := by
  obtain ⟨n0, hf, hlen, hS, hK⟩ := few_of_form l0 q 25 (by omega) hl
  obtain ⟨ns, h1, h2, h3, h4⟩ := brief_l0 n0 q n0.length 0 n0 (by omega) (by omega) hS hK
  refine ⟨ns, fun k hk => ?_, by omega, h3, h4⟩
  unfold clerestorylaw1_brief.f
  rw [hf, Option.bind_some, Option.bind_some, if_pos (by simp only [List.length_nil]; omega), List.nil_append]
  exact h1 k (by omega)
end Go.Proofs.YthjnallbbhnndaaDoor.Dm
namespace Go.Proofs.YthjnallbbhnndaaDoor.Dm
open Go Go.RowKit Go.Proofs.YthjnallbbhnndaaDoor.XSp Go.Proofs.YthjnallbbhnndaaDoorW.PrintWords Go.Proofs.YthjnallbbhnndaaDoorW.PrintLast
structure Tree (ns : List S43) : Prop where
  many : ns.length ≤ 200
  some_ : 0 < ns.length
  root : par ns 0 = -1
  kid : ∀ i c : Int, 0 ≤ i → i < ns.length → c ∈ kidL ns i → 0 ≤ c ∧ c < ns.length ∧ par ns c = i
  once : ∀ i : Int, 0 ≤ i → i < ns.length → (kidL ns i).Nodup
  up : ∀ i : Int, 0 ≤ i → i < ns.length → par ns i = -1 ∨ (0 ≤ par ns i ∧ par ns i < ns.length ∧ i ∈ kidL ns (par ns i))
  deep : ∀ i : Int, 0 ≤ i → i < ns.length → q0x ns i ≤ 40 ∧ q0x ns i ≤ ns.length
theorem mem_hasK (l : List Int) (x : Int) : hasK l x = true ↔ x ∈ l := by
  unfold hasK
  rw [List.any_eq_true]
  constructor
  · rintro ⟨y, hy, h⟩
    obtain rfl := of_decide_eq_true h
    exact hy
  · intro h
    exact ⟨x, h, decide_eq_true rfl⟩
theorem kidsE_once {ns : List S43} {i : Int} : ∀ {l pre : List Int}, kidsE ns i pre l = 0 → l.Nodup ∧ ∀ c ∈ l, hasK pre c = false
  | [], _, _ => ⟨List.nodup_nil, fun c hc => by simp at hc⟩
  | x :: t, pre, h => by
    rw [kidsE_cons] at h
    by_cases hb : q1m ns i pre x = true
    · rw [if_pos hb] at h; cases h
    · rw [if_neg hb] at h
      have hr := kidBad_range hb
      by_cases h7 : i = 0 ∧ (q00 ns x).f0 = 3
      · rw [if_pos h7] at h; cases h
      · rw [if_neg h7] at h
        obtain ⟨h1, h2⟩ := kidsE_once h
        have hx : x ∉ t := fun hx => by
          have := h2 x hx
          rw [(hasK_snoc pre x x).2 (.inl rfl)] at this
          cases this
        refine ⟨List.nodup_cons.2 ⟨hx, h1⟩, fun c hc => ?_⟩
        rcases List.mem_cons.1 hc with rfl | hc
        · exact hr.2.2.2
        · have h3 := h2 c hc
          cases hp : hasK pre c
          · rfl
          · rw [(hasK_snoc pre x c).2 (.inr hp)] at h3
            cases h3
theorem kidsL_ok {ns : List S43} : ∀ {d i : Nat}, kidsL ns d i = 0 → ∀ j : Nat, i ≤ j → j < i + d → kidsE ns (j : Int) [] (kidL ns (j : Int)) = 0
  | 0, i, _, j, h1, h2 => by omega
  | d + 1, i, h, j, h1, h2 => by
    obtain ⟨ha, hb⟩ := orE_eq_zero (show orE (kidsE ns (i : Int) [] (kidL ns (i : Int))) (kidsL ns d (i + 1)) = 0 from h)
    by_cases e : j = i
    · subst e; exact ha
    · exact kidsL_ok hb j (by omega) (by omega)
theorem upsE_ok {ns : List S43} : ∀ {d i : Nat}, upsE ns d i = 0 → ∀ j : Nat, i ≤ j → j < i + d → q0x ns (j : Int) ≤ 40 ∧ q0x ns (j : Int) ≤ ns.length
  | 0, i, _, j, h1, h2 => by omega
  | d + 1, i, h, j, h1, h2 => by
    rw [upsE_succ] at h
    by_cases c : ns.length < q0x ns (i : Int)
    · rw [if_pos c] at h; cases h
    · rw [if_neg c] at h
      by_cases c' : 40 < q0x ns (i : Int)
      · rw [if_pos c'] at h; cases h
      · rw [if_neg c'] at h
        by_cases e : j = i
        · subst e; omega
        · exact upsE_ok h j (by omega) (by omega)
theorem tree_of {ns : List S43} (h : docE ns = 0) : Tree ns := by
  unfold docE at h
  by_cases c : 200 < ns.length
  · rw [if_pos c] at h; cases h
  · rw [if_neg c] at h
    by_cases c0 : ns.length = 0
    · rw [if_pos c0] at h; cases h
    · rw [if_neg c0] at h
      obtain ⟨_, h⟩ := orE_eq_zero h
      obtain ⟨hk, hu⟩ := orE_eq_zero h
      obtain ⟨hk, hp⟩ := orE_eq_zero (show orE (kidsL ns ns.length 0) (q1x ns ns.length 0) = 0 from hk)
      have nat : ∀ i : Int, 0 ≤ i → ((i.toNat : Nat) : Int) = i := fun i h0 => by omega
      refine ⟨by omega, by omega, (parsE_ok hp).1, fun i c h0 h1 hc => ?_, fun i h0 h1 => ?_, fun i h0 h1 => ?_, fun i h0 h1 => ?_⟩
      · have := kidsL_ok hk i.toNat (Nat.zero_le _) (by omega)
        rw [nat i h0] at this
        exact kidsE_ok this c hc
      · have := kidsL_ok hk i.toNat (Nat.zero_le _) (by omega)
        rw [nat i h0] at this
        exact (kidsE_once this).1
      · have := (parsE_ok hp).2 i.toNat (Nat.zero_le _) (by omega)
        rw [nat i h0] at this
        rcases parBad_ok this with h | h
        · exact .inl h
        · exact .inr ⟨h.1, h.2.1, (mem_hasK _ _).1 h.2.2⟩
      · have := upsE_ok hu i.toNat (Nat.zero_le _) (by omega)
        rw [nat i h0] at this
        exact this
theorem deepN_stab (ns : List S43) : ∀ (d : Nat) (i : Int), q27 ns d i < d → q27 ns (d + 1) i = q27 ns d i
  | 0, _, h => absurd h (Nat.not_lt_zero _)
  | d + 1, i, h => by
    rw [show q27 ns (d + 2) i = if par ns i ≥ 0 then 1 + q27 ns (d + 1) (par ns i) else 0 from rfl]
    rw [show q27 ns (d + 1) i = if par ns i ≥ 0 then 1 + q27 ns d (par ns i) else 0 from rfl] at h ⊢
    by_cases c : par ns i ≥ 0
    · rw [if_pos c] at h ⊢
      rw [if_pos c, deepN_stab ns d (par ns i) (by omega)]
    · rw [if_neg c, if_neg c]
theorem deep_up {ns : List S43} (h : Tree ns) {i : Int} (h0 : 0 ≤ i) (h1 : i < ns.length) (hp : 0 ≤ par ns i) : q0x ns i = q0x ns (par ns i) + 1 := by
  have hd := (h.deep i h0 h1).2
  unfold q0x at hd ⊢
  rw [show q27 ns (ns.length + 1) i = if par ns i ≥ 0 then 1 + q27 ns ns.length (par ns i) else 0 from rfl, if_pos hp] at hd ⊢
  rw [deepN_stab ns ns.length (par ns i) (by omega)]
  omega
theorem q17 {ns : List S43} (h : Tree ns) {i c : Int} (h0 : 0 ≤ i) (h1 : i < ns.length) (hc : c ∈ kidL ns i) : q0x ns c = q0x ns i + 1 := by
  obtain ⟨c0, c1, cp⟩ := h.kid i c h0 h1 hc
  rw [deep_up h c0 c1 (by omega), cp]
theorem deep_root {ns : List S43} (_h : Tree ns) {i : Int} (hp : par ns i < 0) : q0x ns i = 0 := by
  unfold q0x
  rw [show q27 ns (ns.length + 1) i = if par ns i ≥ 0 then 1 + q27 ns ns.length (par ns i) else 0 from rfl, if_neg (by omega)]
def upN (ns : List S43) : Nat → Int → Int
  | 0, x => x
  | d + 1, x => upN ns d (par ns x)
theorem upN_succ (ns : List S43) : ∀ (d : Nat) (x : Int), upN ns (d + 1) x = par ns (upN ns d x)
  | 0, _ => rfl
  | d + 1, x => upN_succ ns d (par ns x)
def pre (ns : List S43) : Nat → Int → List Int
  | 0, _ => []
  | d + 1, i => i :: (kidL ns i).flatMap (pre ns d)
def sub (ns : List S43) (i : Int) : List Int := pre ns (41 - q0x ns i) i
theorem q26 {α β : Type} {f g : α → List β} : ∀ {l : List α}, (∀ x ∈ l, f x = g x) → l.flatMap f = l.flatMap g
  | [], _ => rfl
  | x :: t, h => by
    rw [List.flatMap_cons, List.flatMap_cons, h x (by simp), q26 fun y hy => h y (by simp [hy])]
theorem sub_eq {ns : List S43} (h : Tree ns) {i : Int} (h0 : 0 ≤ i) (h1 : i < ns.length) : sub ns i = i :: (kidL ns i).flatMap (sub ns) := by
  have hd := (h.deep i h0 h1).1
  obtain ⟨m, hm⟩ : ∃ m, 41 - q0x ns i = m + 1 := ⟨40 - q0x ns i, by omega⟩
  have e : sub ns i = i :: (kidL ns i).flatMap (pre ns m) := by unfold sub; rw [hm]; rfl
  rw [e]
  congr 1
  refine q26 fun c hc => ?_
  unfold sub
  rw [q17 h h0 h1 hc, show 41 - (q0x ns i + 1) = m by omega]
theorem sub_mem {ns : List S43} (h : Tree ns) : ∀ (d : Nat) (i : Int), 41 - q0x ns i ≤ d → 0 ≤ i → i < ns.length → ∀ x ∈ sub ns i, 0 ≤ x ∧ x < ns.length ∧ q0x ns i ≤ q0x ns x ∧ upN ns (q0x ns x - q0x ns i) x = i
  | 0, i, hd, h0, h1, x, hx => by
    have := (h.deep i h0 h1).1
    omega
  | d + 1, i, hd, h0, h1, x, hx => by
    rw [sub_eq h h0 h1] at hx
    rcases List.mem_cons.1 hx with rfl | hx
    · exact ⟨h0, h1, Nat.le_refl _, by rw [Nat.sub_self]; rfl⟩
    · obtain ⟨c, hc, hx⟩ := List.mem_flatMap.1 hx
      obtain ⟨c0, c1, cp⟩ := h.kid i c h0 h1 hc
      have hk := q17 h h0 h1 hc
      have hdi := (h.deep i h0 h1).1
      obtain ⟨x0, x1, x2, x3⟩ := sub_mem h d c (by omega) c0 c1 x hx
      refine ⟨x0, x1, by omega, ?_⟩
      rw [show q0x ns x - q0x ns i = (q0x ns x - q0x ns c) + 1 by omega, upN_succ, x3, cp]
theorem q1i {ns : List S43} (h : Tree ns) {i : Int} (h0 : 0 ≤ i) (h1 : i < ns.length) {x : Int} (hx : x ∈ sub ns i) : 0 ≤ x ∧ x < ns.length ∧ q0x ns i ≤ q0x ns x ∧ upN ns (q0x ns x - q0x ns i) x = i :=
  sub_mem h _ i (Nat.le_refl _) h0 h1 x hx
theorem nodup_flat {f : Int → List Int} : ∀ {l : List Int}, l.Nodup → (∀ c ∈ l, (f c).Nodup) → (∀ c ∈ l, ∀ c' ∈ l, ∀ x, x ∈ f c → x ∈ f c' → c = c') → (l.flatMap f).Nodup
  | [], _, _, _ => List.nodup_nil
  | c :: t, h, hf, hd => by
    rw [List.flatMap_cons]
    obtain ⟨hc, ht⟩ := List.nodup_cons.1 h
    refine List.nodup_append.2 ⟨hf c (by simp), nodup_flat ht (fun y hy => hf y (by simp [hy])) (fun y hy z hz x h1 h2 => hd y (by simp [hy]) z (by simp [hz]) x h1 h2), fun x hx y hy e => ?_⟩
    subst e
    obtain ⟨z, hz, hxz⟩ := List.mem_flatMap.1 hy
    exact hc (hd c (by simp) z (by simp [hz]) x hx hxz ▸ hz)
theorem sub_once {ns : List S43} (h : Tree ns) : ∀ (d : Nat) (i : Int), 41 - q0x ns i ≤ d → 0 ≤ i → i < ns.length → (sub ns i).Nodup
  | 0, i, hd, h0, h1 => by
    have := (h.deep i h0 h1).1
    omega
  | d + 1, i, hd, h0, h1 => by
    rw [sub_eq h h0 h1]
    have hdi := (h.deep i h0 h1).1
    refine List.nodup_cons.2 ⟨fun hi => ?_, nodup_flat (h.once i h0 h1) (fun c hc => ?_) fun c hc c' hc' x hx hx' => ?_⟩
    · obtain ⟨c, hc, hx⟩ := List.mem_flatMap.1 hi
      obtain ⟨c0, c1, _⟩ := h.kid i c h0 h1 hc
      have := (q1i h c0 c1 hx).2.2.1
      have := q17 h h0 h1 hc
      omega
    · obtain ⟨c0, c1, _⟩ := h.kid i c h0 h1 hc
      exact sub_once h d c (by have := q17 h h0 h1 hc; omega) c0 c1
    · obtain ⟨c0, c1, _⟩ := h.kid i c h0 h1 hc
      obtain ⟨c0', c1', _⟩ := h.kid i c' h0 h1 hc'
      have e := (q1i h c0 c1 hx).2.2.2
      have e' := (q1i h c0' c1' hx').2.2.2
      rw [q17 h h0 h1 hc] at e
      rw [q17 h h0 h1 hc'] at e'
      exact e.symm.trans e'
theorem sub_nodup {ns : List S43} (h : Tree ns) {i : Int} (h0 : 0 ≤ i) (h1 : i < ns.length) : (sub ns i).Nodup := sub_once h _ i (Nat.le_refl _) h0 h1
theorem few_of : ∀ (n : Nat) (l : List Int), l.Nodup → (∀ x ∈ l, 0 ≤ x ∧ x < n) → l.length ≤ n
  | 0, [], _, _ => Nat.le_refl _
  | 0, x :: t, _, h => by have := h x (by simp); omega
  | n + 1, l, hn, h => by
    have h2 : (l.filter (fun x => decide (x ≠ (n : Int)))).length ≤ n := by
      refine few_of n _ (hn.filter _) fun x hx => ?_
      have hx := List.mem_filter.1 hx
      have := h x hx.1
      have := of_decide_eq_true hx.2
      omega
    have h3 : l.length ≤ (l.filter (fun x => decide (x ≠ (n : Int)))).length + 1 := by
      clear h h2
      induction l with
      | nil => simp
      | cons x t ih =>
        obtain ⟨hx, ht⟩ := List.nodup_cons.1 hn
        by_cases e : x = (n : Int)
        · have : t.filter (fun x => decide (x ≠ (n : Int))) = t := by
            refine List.filter_eq_self.2 fun y hy => decide_eq_true fun e' => hx ?_
            rw [e, ← e']
            exact hy
          rw [List.filter_cons_of_neg (by simp [e]), this]
          simp
        · rw [List.filter_cons_of_pos (by simp [e])]
          have := ih ht
          simp only [List.length_cons]
          omega
    omega
theorem sub_few {ns : List S43} (h : Tree ns) {i : Int} (h0 : 0 ≤ i) (h1 : i < ns.length) : (sub ns i).length ≤ ns.length :=
  few_of _ _ (sub_nodup h h0 h1) fun _ hx => ⟨(q1i h h0 h1 hx).1, (q1i h h0 h1 hx).2.1⟩
end Go.Proofs.YthjnallbbhnndaaDoor.Dm
namespace Go.Proofs.YthjnallbbhnndaaDoor.Dm
open Go Go.RowKit Go.Proofs.YthjnallbbhnndaaDoor.XSp Go.Proofs.YthjnallbbhnndaaDoorW.PrintWords Go.Proofs.YthjnallbbhnndaaDoorW.PrintLast
def q1y (ns : List S43) (i : Int) : Int := (q00 ns i).f0
structure DocOk (ns : List S43) : Prop where
  many : ns.length ≤ 200
  some_ : 0 < ns.length
  node : ∀ i : Int, 0 ≤ i → i < ns.length → nodeE (q00 ns i) = 0
  kind : ∀ i : Int, 0 ≤ i → i < ns.length → (q1y ns i = 1 ↔ i = 0)
  root : par ns 0 = -1
  kid : ∀ i c : Int, 0 ≤ i → i < ns.length → c ∈ kidL ns i → 0 ≤ c ∧ c < ns.length ∧ par ns c = i
  once : ∀ i : Int, 0 ≤ i → i < ns.length → (kidL ns i).Nodup
  text : ∀ c : Int, c ∈ kidL ns 0 → q1y ns c ≠ 3
  up : ∀ i : Int, 0 ≤ i → i < ns.length → par ns i = -1 ∨ (0 ≤ par ns i ∧ par ns i < ns.length ∧ i ∈ kidL ns (par ns i))
  deep : ∀ i : Int, 0 ≤ i → i < ns.length → q0x ns i ≤ 40 ∧ q0x ns i ≤ ns.length
theorem DocOk.tree {ns : List S43} (h : DocOk ns) : Tree ns := ⟨h.many, h.some_, h.root, h.kid, h.once, h.up, h.deep⟩
theorem orE_iff {a b : Int} : orE a b = 0 ↔ a = 0 ∧ b = 0 := ⟨orE_eq_zero, fun h => by rw [h.1, q25, h.2]⟩
theorem rootBad_iff (ns : List S43) (i : Nat) : q1w ns i = false ↔ (q1y ns (i : Int) = 1 ↔ (i : Int) = 0) := by
  unfold q1w q1y
  by_cases h1 : (q00 ns (i : Int)).f0 = 1 <;> by_cases h2 : i = 0 <;> simp [h1, h2]
theorem nodesE_iff (ns : List S43) : ∀ d i : Nat, nodesE ns d i = 0 ↔ ∀ j : Nat, i ≤ j → j < i + d → q1w ns j = false ∧ nodeE (q00 ns (j : Int)) = 0
  | 0, i => ⟨fun _ j h1 h2 => by omega, fun _ => rfl⟩
  | d + 1, i => by
    rw [nodesE_succ]
    cases c : q1w ns i with
    | true =>
      rw [if_pos rfl]
      refine ⟨fun h => (by cases h), fun h => ?_⟩
      have := (h i (Nat.le_refl _) (by omega)).1
      rw [c] at this
      cases this
    | false =>
      rw [if_neg (by decide), orE_iff, nodesE_iff ns d (i + 1)]
      refine ⟨fun h j h1 h2 => ?_, fun h => ⟨(h i (Nat.le_refl _) (by omega)).2, fun j h1 h2 => h j (by omega) (by omega)⟩⟩
      by_cases e : j = i
      · subst e; exact ⟨c, h.1⟩
      · exact h.2 j (by omega) (by omega)
theorem hasK_false (l : List Int) (x : Int) : hasK l x = false ↔ x ∉ l := by rw [← mem_hasK]; simp
theorem kidBad_false (ns : List S43) (i : Int) (pre : List Int) (c : Int) : q1m ns i pre c = false ↔ 0 ≤ c ∧ c < ns.length ∧ par ns c = i ∧ c ∉ pre := by
  rw [← hasK_false]
  unfold q1m
  simp [Int.not_lt]
theorem kidsE_iff (ns : List S43) (i : Int) : ∀ l pre : List Int, kidsE ns i pre l = 0 ↔ (∀ c ∈ l, 0 ≤ c ∧ c < ns.length ∧ par ns c = i ∧ c ∉ pre ∧ (i = 0 → q1y ns c ≠ 3)) ∧ l.Nodup
  | [], pre => ⟨fun _ => ⟨fun c hc => by simp at hc, List.nodup_nil⟩, fun _ => rfl⟩
  | x :: t, pre => by
    rw [kidsE_cons]
    cases hb : q1m ns i pre x with
    | true =>
      rw [if_pos rfl]
      refine ⟨fun h => (by cases h), fun h => ?_⟩
      have h1 := h.1 x (by simp)
      have := (kidBad_false ns i pre x).2 ⟨h1.1, h1.2.1, h1.2.2.1, h1.2.2.2.1⟩
      rw [hb] at this
      cases this
    | false =>
      have hk := (kidBad_false ns i pre x).1 hb
      rw [if_neg (by decide)]
      by_cases h7 : i = 0 ∧ (q00 ns x).f0 = 3
      · rw [if_pos h7]
        exact ⟨fun h => (by cases h), fun h => absurd h7.2 ((h.1 x (by simp)).2.2.2.2 h7.1)⟩
      · rw [if_neg h7, kidsE_iff ns i t (pre ++ [x]), List.nodup_cons]
        constructor
        · rintro ⟨h1, h2⟩
          refine ⟨fun c hc => ?_, fun hx => ?_, h2⟩
          · rcases List.mem_cons.1 hc with rfl | hc
            · exact ⟨hk.1, hk.2.1, hk.2.2.1, hk.2.2.2, fun e h3 => h7 ⟨e, h3⟩⟩
            · have := h1 c hc
              exact ⟨this.1, this.2.1, this.2.2.1, fun hp => this.2.2.2.1 (List.mem_append_left _ hp), this.2.2.2.2⟩
          · exact (h1 x hx).2.2.2.1 (by simp)
        · rintro ⟨h1, hx, h2⟩
          refine ⟨fun c hc => ?_, h2⟩
          have := h1 c (by simp [hc])
          refine ⟨this.1, this.2.1, this.2.2.1, fun hp => ?_, this.2.2.2.2⟩
          rcases List.mem_append.1 hp with hp | hp
          · exact this.2.2.2.1 hp
          · rw [List.mem_singleton] at hp
            subst hp
            exact hx hc
theorem kidsL_iff (ns : List S43) : ∀ d i : Nat, kidsL ns d i = 0 ↔ ∀ j : Nat, i ≤ j → j < i + d → kidsE ns (j : Int) [] (kidL ns (j : Int)) = 0
  | 0, i => ⟨fun _ j h1 h2 => by omega, fun _ => rfl⟩
  | d + 1, i => by
    rw [show kidsL ns (d + 1) i = orE (kidsE ns (i : Int) [] (kidL ns (i : Int))) (kidsL ns d (i + 1)) from rfl, orE_iff, kidsL_iff ns d (i + 1)]
    refine ⟨fun h j h1 h2 => ?_, fun h => ⟨h i (Nat.le_refl _) (by omega), fun j h1 h2 => h j (by omega) (by omega)⟩⟩
    by_cases e : j = i
    · subst e; exact h.1
    · exact h.2 j (by omega) (by omega)
theorem parsE_iff (ns : List S43) : ∀ d i : Nat, q1x ns d i = 0 ↔ par ns 0 = -1 ∧ ∀ j : Nat, i ≤ j → j < i + d → q1n ns (j : Int) = false
  | 0, i => by
    show (if par ns 0 = -1 then (0 : Int) else 3) = 0 ↔ _
    by_cases c : par ns 0 = -1
    · rw [if_pos c]
      exact ⟨fun _ => ⟨c, fun j h1 h2 => by omega⟩, fun _ => rfl⟩
    · rw [if_neg c]
      exact ⟨fun h => (by cases h), fun h => absurd h.1 c⟩
  | d + 1, i => by
    rw [show q1x ns (d + 1) i = if q1n ns (i : Int) = true then 3 else q1x ns d (i + 1) from rfl]
    cases c : q1n ns (i : Int) with
    | true =>
      rw [if_pos rfl]
      refine ⟨fun h => (by cases h), fun h => ?_⟩
      have := h.2 i (Nat.le_refl _) (by omega)
      rw [c] at this
      cases this
    | false =>
      rw [if_neg (by decide), parsE_iff ns d (i + 1)]
      refine ⟨fun h => ⟨h.1, fun j h1 h2 => ?_⟩, fun h => ⟨h.1, fun j h1 h2 => h.2 j (by omega) (by omega)⟩⟩
      by_cases e : j = i
      · subst e; exact c
      · exact h.2 j (by omega) (by omega)
theorem parBad_false (ns : List S43) (i : Int) : q1n ns i = false ↔ par ns i = -1 ∨ (0 ≤ par ns i ∧ par ns i < ns.length ∧ i ∈ kidL ns (par ns i)) := by
  rw [← mem_hasK]
  unfold q1n
  by_cases c : par ns i = -1
  · simp [c]
  · simp [c]
theorem upsE_iff (ns : List S43) : ∀ d i : Nat, upsE ns d i = 0 ↔ ∀ j : Nat, i ≤ j → j < i + d → q0x ns (j : Int) ≤ 40 ∧ q0x ns (j : Int) ≤ ns.length
  | 0, i => ⟨fun _ j h1 h2 => by omega, fun _ => rfl⟩
  | d + 1, i => by
    rw [upsE_succ]
    by_cases c : ns.length < q0x ns (i : Int)
    · rw [if_pos c]
      refine ⟨fun h => (by cases h), fun h => ?_⟩
      have := h i (Nat.le_refl _) (by omega)
      omega
    · rw [if_neg c]
      by_cases c' : 40 < q0x ns (i : Int)
      · rw [if_pos c']
        refine ⟨fun h => (by cases h), fun h => ?_⟩
        have := h i (Nat.le_refl _) (by omega)
        omega
      · rw [if_neg c', upsE_iff ns d (i + 1)]
        refine ⟨fun h j h1 h2 => ?_, fun h j h1 h2 => h j (by omega) (by omega)⟩
        by_cases e : j = i
        · subst e; omega
        · exact h j (by omega) (by omega)
theorem docE_iff (ns : List S43) : docE ns = 0 ↔ DocOk ns := by
  have nat : ∀ i : Int, 0 ≤ i → ((i.toNat : Nat) : Int) = i := fun i h0 => by omega
  constructor
  · intro h
    have ht := tree_of h
    unfold docE at h
    rw [if_neg (by have := ht.many; omega), if_neg (by have := ht.some_; omega), orE_iff, orE_iff] at h
    obtain ⟨hn, hk, hu⟩ := h
    obtain ⟨hk, hp⟩ := orE_iff.1 (show orE (kidsL ns ns.length 0) (q1x ns ns.length 0) = 0 from hk)
    have hn := (nodesE_iff ns _ _).1 hn
    have hk := (kidsL_iff ns _ _).1 hk
    refine ⟨ht.many, ht.some_, fun i h0 h1 => ?_, fun i h0 h1 => ?_, ht.root, ht.kid, ht.once, fun c hc => ?_, ht.up, ht.deep⟩
    · have := (hn i.toNat (Nat.zero_le _) (by omega)).2
      rwa [nat i h0] at this
    · have := (rootBad_iff ns i.toNat).1 (hn i.toNat (Nat.zero_le _) (by omega)).1
      rwa [nat i h0] at this
    · have := hk 0 (Nat.le_refl _) (by have := ht.some_; omega)
      exact (((kidsE_iff ns _ _ _).1 this).1 c hc).2.2.2.2 rfl
  · intro h
    unfold docE
    rw [if_neg (by have := h.many; omega), if_neg (by have := h.some_; omega), orE_iff, orE_iff]
    refine ⟨(nodesE_iff ns _ _).2 fun j _ hj => ⟨(rootBad_iff ns j).2 (h.kind j (by omega) (by omega)), h.node j (by omega) (by omega)⟩, orE_iff.2 ⟨(kidsL_iff ns _ _).2 fun j _ hj => (kidsE_iff ns _ _ _).2 ⟨fun c hc => ?_, h.once j (by omega) (by omega)⟩, (parsE_iff ns _ _).2 ⟨h.root, fun j _ hj => (parBad_false ns j).2 (h.up j (by omega) (by omega))⟩⟩, (upsE_iff ns _ _).2 fun j _ hj => h.deep j (by omega) (by omega)⟩
    obtain ⟨c0, c1, c2⟩ := h.kid j c (by omega) (by omega) hc
    refine ⟨c0, c1, c2, by simp, fun e => ?_⟩
    rw [e] at hc
    exact h.text c hc
end Go.Proofs.YthjnallbbhnndaaDoor.Dm
namespace Go.Proofs.YthjnallbbhnndaaDoor.XSp
open Go.Proofs.YthjnallbbhnndaaDoor.Short Go.RowKit Go.Proofs.YthjnallbbhnndaaDoorW.PrintWords Go.Proofs.YthjnallbbhnndaaDoorW.PrintLast Go.Proofs.YthjnallbbhnndaaDoorW.PrintMore
attribute [local go_sem] q15 q13 q1d q1c q0w q0v q14 q12   -- for this text's walks alone
set_option linter.unusedVariables false
set_option linter.unusedSimpArgs false
mutual
def clerestoryref1_Below.l0 : Nat → Int → List Int → Int → List (S43) → Bool → Option (List Int)
 | 0, _, _, _, _, _ => none
 | k + 1, x1, x5, x6, x408000, x408001 => if 0 ≤ x1 then (if x1 < (x408000.length : Int) then (if x6 < (((q00 x408000 x1).f5).length : Int) then (if 0 ≤ x6 then ((clerestoryref1_Below.f k x408000 x408001 (rd ((q00 x408000 x1).f5) x6)).bind fun t414 => (if x5.length + t414.length < 17592186044416 then (clerestoryref1_Below.l0 k x1 (x5 ++ t414) (wrap64 (x6 + 1)) x408000 x408001) else (none))) else (none)) else (some x5)) else (none)) else (none)
def clerestoryref1_Below.f : Nat → List (S43) → Bool → Int → Option (List Int)
 | 0, _, _, _ => none
 | k + 1, l0_0, a0_1, a1 => clerestoryref1_Below.l0 k a1 (([a1] : List Int)) 0 l0_0 a0_1
end
theorem clerestoryref1_Below.mono_l : ∀ k, (∀ y0 y1 y2, LeO (clerestoryref1_Below.f k y0 y1 y2) (clerestoryref1_Below.f (k + 1) y0 y1 y2)) ∧ (∀ y0 y1 y2 y3 y4, LeO (clerestoryref1_Below.l0 k y0 y1 y2 y3 y4) (clerestoryref1_Below.l0 (k + 1) y0 y1 y2 y3 y4))
 | 0 => ⟨fun _ _ _ r h => by simp [clerestoryref1_Below.f] at h, fun _ _ _ _ _ r h => by simp [clerestoryref1_Below.l0] at h⟩
 | k + 1 => by
  obtain ⟨ih0, ih1⟩ := clerestoryref1_Below.mono_l k
  refine ⟨?_, ?_⟩
  all_goals intros
  all_goals (first | unfold clerestoryref1_Below.f | unfold clerestoryref1_Below.l0)
  all_goals (repeat' first | with_reducible first | apply ih0 | apply ih1 | exact LeO.refl _ | exact LeO.none _ | refine LeO.ite ?_ ?_ | refine LeO.bind ?_ (fun _ => ?_) | (first | apply ih0 | apply ih1 | exact LeO.none _ | refine LeO.ite ?_ ?_ | refine LeO.bind ?_ (fun _ => ?_)))
theorem clerestoryref1_Below.mono : ∀ a0 a1 a2 k, LeO (clerestoryref1_Below.f k a0 a1 a2) (clerestoryref1_Below.f (k + 1) a0 a1 a2) := by
 intro a0 a1 a2 k
 obtain ⟨ih0, ih1⟩ := clerestoryref1_Below.mono_l k
 exact ih0 a0 a1 a2
def clerestoryref1_Below.T5 : Bool × List (List Nat × List Nat) := (true, [([], []), ([], []), ([], []), ([2], [2]), ([], []), ([3, 4], [3, 4]), ([5], [5]), ([6], [6]), ([], []), ([7, 8], [7, 8]), ([9], [9]), ([1, 10], [1, 10]), ([0, 11, 11], [0, 11]), ([12, 12, 0, 1, 2, 3, 4, 5, 6, 7, 8, 9, 10, 11, 12], [0, 12])])
def clerestoryref1_Below.B5 : List Nat := [0, 0, 0, 4, 0, 28, 60, 124, 0, 508, 1020, 2046, 4095, 8191]
theorem clerestoryref1_Below.tab5 : rtab .any (opsOf Tryd.f25 5) = clerestoryref1_Below.T5 := by kernel_rfl
theorem clerestoryref1_Below.bits5 : q24 clerestoryref1_Below.T5.2 clerestoryref1_Below.B5 = true := by kernel_rfl
set_option maxHeartbeats 8000000 in
set_option maxRecDepth 100000 in
theorem clerestoryref1_Below.calls (k : Nat) : ∀ (A0_0 : Option Addr) (c0_0 : Nat) (l0_0 : List (S43)) (a0_1 : Bool) (a1 : Int) (r : List Int) (w : World) (hr0_0 : Kd.C k43 w A0_0 l0_0.length l0_0) (hc0_0 : l0_0.length ≤ c0_0) (h : clerestoryref1_Below.f k l0_0 a0_1 a1 = some r),
 Calls Tryd.prog 25 #[.agg #[.slice A0_0 l0_0.length c0_0, .bool a0_1], .int .i64 a1] w fun e w' => ∃ v0_ : Value, e = .returned (v0_) ∧ Kd.R (Kd.int .i64) 3 w' w.heap.size (fun _ => True) v0_ r ∧ Below w.heap.size w w' := by
 induction k using Nat.strongRecOn with
 | _ k ih =>
 intro A0_0 c0_0 l0_0 a0_1 a1 r w hr0_0 hc0_0 h
 cases k with
 | zero => exact absurd h (by simp [clerestoryref1_Below.f])
 | succ k =>
 simp only [clerestoryref1_Below.f] at h
 have hu24 := Tryd.underlying24
 have HR0_0 := aS hr0_0
 have HC0_0 := aS hc0_0
 clear hr0_0 hc0_0
 have HB := aS (Below.refl w.heap.size w)
 have H := h; clear h; unfold clerestoryref1_Below.f at H
 obtain ⟨y408, hy408⟩ : ∃ y_ : List Int, y_ = (([a1] : List Int)) := ⟨_, rfl⟩
 replace H : (clerestoryref1_Below.l0 k a1 y408 0 l0_0 a0_1) = some r := by first | (rw [hy408]; with_reducible exact H) | (have H2_ := (Option.bind_some _ _).symm.trans H; rw [hy408]; with_reducible exact H2_) | (have H2_ := (Option.bind_some _ _).symm.trans H; with_reducible exact H2_) | with_reducible exact H | (rw [hy408]; exact H) | exact H
 have Ny408 := aS hy408
 clear hy408
 have H' := aS H
 clear H
 go_enter Tryd.func25, Tryd.ntmps25
 go_wp2_with (first | ((with_reducible refine q09 (N := 2) rfl ?_); refine box0 rfl (N := 2) rfl (cs := #[.slice A0_0 l0_0.length c0_0, .bool a0_1]) (t := 24) zi (z7 HB.out) ?_; clear HB; intro gb407 w3 BK407 GW407 HB; have GE407 := GW407) | ((with_reducible refine q09 (N := 8) rfl ?_); refine Kd.R_lit (Kd.int .i64) _ 3 ?hg (N := 8) ?hd (xs := ([a1] : List Int)) (inner := [.int .i64 a1]) (ok := fun _ => True) (okp := fun _ => True) ?hr ?hp (fun _ hk => hk) trivial (Below.refl _ _) (Nat.le_refl _) (by simp) ?_; (case hd => rfl); (case hg => rfl); (case hr => first | (go_simp; done) | (go_simp; rfl)); (case hp => exact (Reps.one (show Kd.M (Kd.int .i64) _ _ _ a1 [.int .i64 a1] from rfl) (Reps.none _ _))); intro v409 w4 ho5 hb hg_ hnew_; clear hg_ hnew_; (first | rw [← Ny408.out] at ho5 | (simp only [Int.reduceToNat] at ho5; rw [← Ny408.out] at ho5)); have HO410 := aS (Kd.R_lower ho5 (q06 (z6 HB.out GE407.out))); replace BK407 := aS (q01 (g := gb407) (o := .cells #[.slice A0_0 l0_0.length c0_0, .bool a0_1] 24 (0, 0)) (za BK407.out) hb); replace HB := aS (q02 (z6 HB.out GE407.out) hb); clear hb ho5))
 go_loopg [5, 6] k (fun kq v5 v6 w' => ∃ (x5_1 : List Int) (x6_1 : Int), v6 = .int .i64 x6_1 ∧ Aside0 (clerestoryref1_Below.l0 kq a1 x5_1 x6_1 l0_0 a0_1 = some r) ∧ Aside0 (kq ≤ k) ∧ Aside0 (Kd.R (Kd.int .i64) 3 w' w.heap.size (fun _ => True) v5 x5_1) ∧ Aside0 (w'.heap[gb407]? = some (.cells #[(.slice A0_0 l0_0.length c0_0), .bool a0_1] 24 (0, 0))) ∧ Aside0 (Below w.heap.size w w'))
 case atStart => exact ⟨(y408), (0), zj, H', ⟨Nat.le_refl _⟩, ⟨by (with_reducible repeat (first | apply rA | apply rN | apply rD)); exact HO410.out⟩, ⟨by (with_reducible repeat (first | refine kN ?_ _ | refine kD ?_ | refine kA ?_ _)); exact BK407.out⟩, ⟨by repeat (first | (with_reducible first | exact HB.out | apply bA | apply bN | apply bD | refine bS ?_ GE407.out) | exact HB.out)⟩⟩
 case round =>
  clear H'
  obtain ⟨x5_1, x6_1, rfl, HA, HK1, HO_5, BK407, HB⟩ := hrel
  cases gk with
  | zero => exact absurd HA.out (by simp [clerestoryref1_Below.l0])
  | succ k1 =>
   have H := HA.out
   clear HA
   simp only [clerestoryref1_Below.l0] at H
   refine iLp H ?_; clear H; intro c6b0 H
   refine iTp H ?_; clear H; intro c7b0 H
   refine iT H ?p8 ?n8 <;> clear H
   case' p8 => intro c8b0 H; refine iLp H ?_; clear H; intro c9b0 H; replace H := iB H; obtain ⟨t414, A10, H⟩ := H; refine iGp H ?_; clear H; intro c11 H
   case' n8 => intro c8b0 H
   case p8 =>
    have LMc11 := aS c11
    clear c11
    obtain ⟨y417, hy417⟩ : ∃ y_ : List Int, y_ = (x5_1 ++ t414) := ⟨_, rfl⟩
    replace H : (clerestoryref1_Below.l0 k1 a1 y417 (wrap64 (x6_1 + 1)) l0_0 a0_1) = some r := by first | (rw [hy417]; with_reducible exact H) | (have H2_ := (Option.bind_some _ _).symm.trans H; rw [hy417]; with_reducible exact H2_) | (have H2_ := (Option.bind_some _ _).symm.trans H; with_reducible exact H2_) | with_reducible exact H | (rw [hy417]; exact H) | exact H
    have Ny417 := aS hy417
    clear hy417
    have H' := aS H
    clear H
    obtain ⟨hczL_0, hczL_1, hfzL_0, hfzL_1⟩ := bk2 BK407.out
    obtain ⟨ad411, A411_2, c411_2, A411_5, c411_5, e411, hx411_0, hx411_1, hx411_2, hx411_3, hx411_4, hx411_5, HC411_2, HR411_2, HC411_5, HR411_5, p411, q411⟩ := q0q HB.out HR0_0.out a1 zc zc
    cases e411
    try go_wp2
    have n0_ := aS (Kd.R_drew HO_5.out)
    have n1_ := aS (q0r BK407.out)
    have n2_ := aS (q0t HB.out)
    clear HO_5
    clear BK407
    clear HB
    have HO_5 := n0_
    have BK407 := n1_
    have HB := n2_
    clear n0_ n1_ n2_
    have p412 : 0 ≤ (a1 : Int) := od zc
    have q412 : a1 < (l0_0.length : Int) := od zc
    obtain ⟨ad412, A412_2, c412_2, A412_5, c412_5, e412, hx412_0, hx412_1, hx412_2, hx412_3, hx412_4, hx412_5, hl412_2, hi412_2, hl412_5, hi412_5⟩ := at_T43 HR0_0.out a1 p412 q412
    have hw412_5 := hx412_5
    have hw412_4 := hx412_4
    have hw412_3 := hx412_3
    have hw412_2 := hx412_2
    have hw412_1 := hx412_1
    have hw412_0 := hx412_0
    obtain rfl : ad411 = ad412 := (by injection e412)
    replace hx412_0 := q0g HB.out hx412_0
    replace hx412_1 := q0g HB.out hx412_1
    replace hx412_2 := q0g HB.out hx412_2
    replace hx412_3 := q0g HB.out hx412_3
    replace hx412_4 := q0g HB.out hx412_4
    replace hx412_5 := q0g HB.out hx412_5
    have HR412_2 := aS hi412_2
    have HC412_2 := aS hl412_2
    clear hi412_2 hl412_2
    have HR412_5 := aS hi412_5
    have HC412_5 := aS hl412_5
    clear hi412_5 hl412_5
    replace p412 := eq_true p412
    replace q412 := eq_true q412
    have p413 : 0 ≤ (x6_1 : Int) := od zc
    have q413 : x6_1 < (((q00 l0_0 a1).f5).length : Int) := od zc
    obtain ⟨ad413, e413, hx413_0⟩ := Kd.at_int HR412_5.out x6_1 p413 q413
    have hw413_0 := hx413_0
    cases e413
    replace hx413_0 := q0g HB.out hx413_0
    replace p413 := eq_true p413
    replace q413 := eq_true q413
    refine start_ (n := 14) (S := fun w' => w'.cell? ⟨gb407, 0, none⟩ = some (.slice (some ad411) l0_0.length c0_0) ∧ w'.cell? ⟨gb407, 1, none⟩ = some (.bool a0_1) ∧ w'.cell? (ad411.add ((a1).toNat * 6)) = some (.int .i64 ((q00 l0_0 a1).f0)) ∧ w'.cell? ⟨(ad411.add ((a1).toNat * 6)).block, (ad411.add ((a1).toNat * 6)).off + 1, none⟩ = some (.string ((q00 l0_0 a1).f1)) ∧ w'.cell? ⟨(ad411.add ((a1).toNat * 6)).block, (ad411.add ((a1).toNat * 6)).off + 2, none⟩ = some (.slice A412_2 ((q00 l0_0 a1).f2).length c412_2) ∧ w'.cell? ⟨(ad411.add ((a1).toNat * 6)).block, (ad411.add ((a1).toNat * 6)).off + 3, none⟩ = some (.string ((q00 l0_0 a1).f3)) ∧ w'.cell? ⟨(ad411.add ((a1).toNat * 6)).block, (ad411.add ((a1).toNat * 6)).off + 4, none⟩ = some (.int .i64 ((q00 l0_0 a1).f4)) ∧ w'.cell? ⟨(ad411.add ((a1).toNat * 6)).block, (ad411.add ((a1).toNat * 6)).off + 5, none⟩ = some (.slice (some ad413) ((q00 l0_0 a1).f5).length c412_5) ∧ w'.cell? (ad413.add (x6_1).toNat) = some (.int .i64 (rd ((q00 l0_0 a1).f5) x6_1))) (ds := []) #[false, false, false, false, false, false, false, false, false, false, false, false, false, false] (by kernel_rfl) rfl rfl ⟨(q05 BK407.out 0).trans rfl, (q05 BK407.out 1).trans rfl, ((HB.out.cell (World.block_lt_of_cell? w _ hw412_0)).trans hw412_0), ((HB.out.cell (World.block_lt_of_cell? w _ hw412_1)).trans hw412_1), ((HB.out.cell (World.block_lt_of_cell? w _ hw412_2)).trans hw412_2), ((HB.out.cell (World.block_lt_of_cell? w _ hw412_3)).trans hw412_3), ((HB.out.cell (World.block_lt_of_cell? w _ hw412_4)).trans hw412_4), ((HB.out.cell (World.block_lt_of_cell? w _ hw412_5)).trans hw412_5), ((HB.out.cell (World.block_lt_of_cell? w _ hw413_0)).trans hw413_0)⟩ (fun hHeld => ?_); refine q1a clerestoryref1_Below.tab5 clerestoryref1_Below.bits5 (fun HT_ HW_ => ?_)
    generalize wr.drew = w13 at HO_5 BK407 HB HR412_2 HR412_5 hx412_0 hx412_1 hx412_2 hx412_3 hx412_4 hx412_5 hx413_0 hHeld ⊢
    refine q0j (i := 0) (N := some 20) (v := ?_) (a' := ?_) #[true, false, false, false, false, false, false, false, false, false, false, false, false, false] rfl rfl (q0d HT_.out (by kernel_rfl)) (fun _ _ _ h => h) (Or.inl ⟨by rfl, ?_⟩) ?_ ?_
    rotate_left
    ·intro w'
     go_simp
     with_reducible rfl
    rotate_left
    ·simp only [Act.put, s1, s2, s3, q0b, q0c]
     rfl
    refine q0j (i := 2) (N := some 22) (v := ?_) (a' := ?_) #[true, false, true, false, false, false, false, false, false, false, false, false, false, false] rfl rfl (q0d HT_.out (by kernel_rfl)) (fun _ _ _ h => h) (Or.inl ⟨by rfl, ?_⟩) ?_ ?_
    rotate_left
    ·intro w'
     go_simp
     with_reducible rfl
    rotate_left
    ·simp only [Act.put, s1, s2, s3, q0b, q0c]
     rfl
    refine q0j (i := 4) (N := some 24) (v := ?_) (a' := ?_) #[true, false, true, false, true, false, false, false, false, false, false, false, false, false] rfl rfl (q0d HT_.out (by kernel_rfl)) (fun _ _ _ h => h) (Or.inl ⟨by rfl, ?_⟩) ?_ ?_
    rotate_left
    ·intro w'
     go_simp
     with_reducible rfl
    rotate_left
    ·simp only [Act.put, s1, s2, s3, q0b, q0c]
     rfl
    refine q0j (i := 8) (N := some 28) (v := ?_) (a' := ?_) #[true, false, true, false, true, false, false, false, true, false, false, false, false, false] rfl rfl (q0d HT_.out (by kernel_rfl)) (fun _ _ _ h => h) (Or.inl ⟨by rfl, ?_⟩) ?_ ?_
    rotate_left
    ·intro w'
     go_simp
     with_reducible rfl
    rotate_left
    ·simp only [Act.put, s1, s2, s3, q0b, q0c]
     rfl
    refine take_ (i := 1) (N := some 21) (v := ?_) (a' := ?_) #[true, true, true, false, true, false, false, false, true, false, false, false, false, false] rfl rfl (q0o HT_.out HW_.out (by kernel_rfl)) (fun _ _ _ h => h) (Or.inl ⟨by rfl, ?_⟩) hHeld ?_ ?_
    rotate_left
    ·rintro w' ⟨s0, s1, s2, s3, s4, s5, s6, s7, s8⟩
     go_simp
     with_reducible rfl
    rotate_left
    ·simp only [Act.put, s1, s2, s3, q0b, q0c]
     rfl
    refine take_ (i := 3) (N := some 23) (v := ?_) (a' := ?_) #[true, true, true, true, true, false, false, false, true, false, false, false, false, false] rfl rfl (q0o HT_.out HW_.out (by kernel_rfl)) (fun _ _ _ h => h) (Or.inl ⟨by rfl, ?_⟩) hHeld ?_ ?_
    rotate_left
    ·rintro w' ⟨s0, s1, s2, s3, s4, s5, s6, s7, s8⟩
     go_simp
     with_reducible rfl
    rotate_left
    ·simp only [Act.put, s1, s2, s3, q0b, q0c]
     rfl
    refine q0j (i := 5) (N := some 25) (v := ?_) (a' := ?_) #[true, true, true, true, true, true, false, false, true, false, false, false, false, false] rfl rfl (q0d HT_.out (by kernel_rfl)) (fun _ _ _ h => h) (Or.inl ⟨by rfl, ?_⟩) ?_ ?_
    rotate_left
    ·intro w'
     go_simp
     with_reducible rfl
    rotate_left
    ·simp only [Act.put, s1, s2, s3, q0b, q0c]
     rfl
    refine q0j (i := 6) (N := some 26) (v := ?_) (a' := ?_) #[true, true, true, true, true, true, true, false, true, false, false, false, false, false] rfl rfl (q0d HT_.out (by kernel_rfl)) (fun _ _ _ h => h) (Or.inl ⟨by rfl, ?_⟩) ?_ ?_
    rotate_left
    ·intro w'
     go_simp
     with_reducible rfl
    rotate_left
    ·simp only [Act.put, s1, s2, s3, q0b, q0c]
     rfl
    refine take_ (i := 7) (N := some 27) (v := ?_) (a' := ?_) #[true, true, true, true, true, true, true, true, true, false, false, false, false, false] rfl rfl (q0o HT_.out HW_.out (by kernel_rfl)) (fun _ _ _ h => h) (Or.inl ⟨by rfl, ?_⟩) hHeld ?_ ?_
    rotate_left
    ·rintro w' ⟨s0, s1, s2, s3, s4, s5, s6, s7, s8⟩
     go_simp
     with_reducible rfl
    rotate_left
    ·simp only [Act.put, s1, s2, s3, q0b, q0c]
     rfl
    refine q0j (i := 9) (N := some 29) (v := ?_) (a' := ?_) #[true, true, true, true, true, true, true, true, true, true, false, false, false, false] rfl rfl (q0d HT_.out (by kernel_rfl)) (fun _ _ _ h => h) (Or.inl ⟨by rfl, ?_⟩) ?_ ?_
    rotate_left
    ·intro w'
     go_simp
     with_reducible rfl
    rotate_left
    ·simp only [Act.put, s1, s2, s3, q0b, q0c]
     rfl
    refine take_ (i := 10) (N := some 30) (v := ?_) (a' := ?_) #[true, true, true, true, true, true, true, true, true, true, true, false, false, false] rfl rfl (q0o HT_.out HW_.out (by kernel_rfl)) (fun _ _ _ h => h) (Or.inl ⟨by rfl, ?_⟩) hHeld ?_ ?_
    rotate_left
    ·rintro w' ⟨s0, s1, s2, s3, s4, s5, s6, s7, s8⟩
     go_simp
     with_reducible rfl
    rotate_left
    ·simp only [Act.put, s1, s2, s3, q0b, q0c]
     rfl
    refine one_ (i := 11) (N := some 31) #[true, true, true, true, true, true, true, true, true, true, true, true, false, false] rfl rfl (q1r HT_.out (by kernel_rfl)) (by decide) (fun K hK => ?_)
    refine goes_ Tryd.func25 (by kernel_rfl) rfl #[.agg #[.slice (some ad411) l0_0.length c0_0, .bool a0_1], .int .i64 (rd ((q00 l0_0 a1).f5) x6_1)] (by rfl) rfl rfl zd ?_
    with_reducible refine (ih k1 (by have := HK1.out; omega) _ _ l0_0 a0_1 (rd ((q00 l0_0 a1).f5) x6_1) t414 _ ?side1 ?side2 A10.out).mono ?_
    (case side1 => repeat (first | exact (Kd.C_below HR0_0.out HB.out) | (with_reducible refine cA ?_ _) | (with_reducible refine cN ?_ _) | (with_reducible refine cD ?_)))
    (case side2 => exact HC0_0.out)
    rintro e w14 ⟨v415, rfl, ho0, hb⟩
    refine ⟨_, rfl, ?_⟩
    have n0_ := aS (Kd.R_elder' (zg HO_5.out) (Kd.R_base ho0) hb)
    have n1_ := aS (Kd.R_lower (Kd.R_new' ho0 (Kd.R_lt (zg HO_5.out))) (q06 (z6 HB.out GE407.out)))
    have n2_ := aS (q01 (g := gb407) (o := .cells #[.slice (some ad411) l0_0.length c0_0, .bool a0_1] 24 (0, 0)) (za BK407.out) hb)
    have n3_ := aS (q02 (z6 HB.out GE407.out) hb)
    clear HO_5
    clear BK407
    clear HB
    have HO_5 := n0_
    have HO416 := n1_
    have BK407 := n2_
    have HB := n3_
    clear n0_ n1_ n2_ n3_
    (try clear hb)
    (try clear hb2)
    (try clear hk)
    (try clear hi)
    (try clear ho0)
    obtain ⟨Ao16, co16, eo16⟩ := Kd.R_slice HO416.out
    (first | subst eo16 | (injection eo16 with f1_ f2_ f3_; have f4_ := f1_.symm; have f5_ := f3_.symm; clear f1_ f2_ f3_; subst f4_; subst f5_))
    refine hK.out _ _ ⟨(q05 BK407.out 0).trans rfl, (q05 BK407.out 1).trans rfl, ((HB.out.cell (World.block_lt_of_cell? w _ hw412_0)).trans hw412_0), ((HB.out.cell (World.block_lt_of_cell? w _ hw412_1)).trans hw412_1), ((HB.out.cell (World.block_lt_of_cell? w _ hw412_2)).trans hw412_2), ((HB.out.cell (World.block_lt_of_cell? w _ hw412_3)).trans hw412_3), ((HB.out.cell (World.block_lt_of_cell? w _ hw412_4)).trans hw412_4), ((HB.out.cell (World.block_lt_of_cell? w _ hw412_5)).trans hw412_5), ((HB.out.cell (World.block_lt_of_cell? w _ hw413_0)).trans hw413_0)⟩ (fun hHeld => ?_)
    clear hK K
    refine norm_ (a' := ?_) ?_ ?_
    rotate_left
    ·show Act.put _ (some 31) _ = _
     simp only [Act.put, s1, s2, s3, q0b, q0c]
     rfl
    refine one_ (i := 12) (N := some 32) #[true, true, true, true, true, true, true, true, true, true, true, true, true, false] rfl rfl (q1r HT_.out (by kernel_rfl)) (by decide) (fun K hK => ?_)
    refine Kd.R_append_rows_step (Kd.int .i64) (w0 := w) w.heap.size (by rfl) (.tmp 20) (.tmp 31) 31 3 (.int .i64 0) 8 rfl Tryd.underlying31 info3 rfl (by decide) (by omega) u5 x5_1 t414 _ _ _ (fun k_ => some k_ ≠ (.slice Ao16 t414.length co16 : Value).ownBlock) (fun _ => False) rfl rfl ?aO ?aR (fun _ _ h => h) (fun _ h => h.elim) ?aF ?aB ?aS ?aL ?_
    (case aR => repeat (first | exact (Kd.R_reads' HO416.out).2.2 | (with_reducible refine cA ?_ _) | (with_reducible refine cN ?_ _) | (with_reducible refine cD ?_)))
    (case aB => exact (z6 HB.out GE407.out))
    (case aF => exact (fun k_ hk => Kd.fresh' (Kd.R_lt (zg HO416.out)) k_ hk))
    (case aO => exact (by (with_reducible repeat (first | apply rA | apply rN | apply rD)); exact Kd.R_mono HO_5.out (fun _ hk => hk.2)))
    (case aS => exact (q06 (z6 HB.out GE407.out)))
    (case aL => have := LMc11.out; omega)
    intro v418 w15 ho hb hg hat
    rw [← Ny417.out] at ho
    have n0_ := aS (q0s (g := gb407) (o := .cells #[.slice (some ad411) l0_0.length c0_0, .bool a0_1] 24 (0, 0)) (za BK407.out) hg (Kd.R_ne HO_5.out BK407.out (by decide)))
    have n1_ := aS (Kd.R_after (ok := (fun _ => True)) (zg HO416.out) hg hat)
    have n2_ := aS (hb)
    have n3_ := aS (ho)
    clear BK407
    clear HO416
    clear HB
    clear HO_5
    have BK407 := n0_
    have HO416 := n1_
    have HB := n2_
    have HO419 := n3_
    clear n0_ n1_ n2_ n3_
    clear ho hb hg hat
    refine hK.out _ _ ⟨(q05 BK407.out 0).trans rfl, (q05 BK407.out 1).trans rfl, ((HB.out.cell (World.block_lt_of_cell? w _ hw412_0)).trans hw412_0), ((HB.out.cell (World.block_lt_of_cell? w _ hw412_1)).trans hw412_1), ((HB.out.cell (World.block_lt_of_cell? w _ hw412_2)).trans hw412_2), ((HB.out.cell (World.block_lt_of_cell? w _ hw412_3)).trans hw412_3), ((HB.out.cell (World.block_lt_of_cell? w _ hw412_4)).trans hw412_4), ((HB.out.cell (World.block_lt_of_cell? w _ hw412_5)).trans hw412_5), ((HB.out.cell (World.block_lt_of_cell? w _ hw413_0)).trans hw413_0)⟩ (fun hHeld => ?_)
    clear hK K
    refine norm_ (a' := ?_) ?_ ?_
    rotate_left
    ·show Act.put _ (some 32) _ = _
     simp only [Act.put, s1, s2, s3, q0b, q0c]
     rfl
    refine q0j (i := 13) (N := some 5) (v := ?_) (a' := ?_) #[true, true, true, true, true, true, true, true, true, true, true, true, true, true] rfl rfl (q0d HT_.out (by kernel_rfl)) (fun _ _ _ h => h) (Or.inl ⟨by rfl, ?_⟩) ?_ ?_
    rotate_left
    ·intro w'
     go_simp
     with_reducible rfl
    rotate_left
    ·simp only [Act.put, s1, s2, s3, q0b, q0c]
     rfl
    refine done_ (q1s HT_.out (by kernel_rfl)) ?_
    try go_wp2
    go_roundg k1
    case measure => have := HK1.out; omega
    case rel => exact ⟨(y417), (wrap64 (x6_1 + 1)), zj, H', ⟨by have := HK1.out; omega⟩, ⟨by (with_reducible repeat (first | apply rA | apply rN | apply rD)); exact Kd.R_mono HO419.out (fun _ hk => trivial)⟩, ⟨by (with_reducible repeat (first | refine kN ?_ _ | refine kD ?_ | refine kA ?_ _)); exact BK407.out⟩, ⟨by repeat (first | (with_reducible first | exact HB.out | apply bA | apply bN | apply bD | refine bS ?_ GE407.out) | exact HB.out)⟩⟩
   case n8 =>
    obtain rfl := Option.some.inj H
    obtain ⟨hczL_0, hczL_1, hfzL_0, hfzL_1⟩ := bk2 BK407.out
    obtain ⟨ad411, A411_2, c411_2, A411_5, c411_5, e411, hx411_0, hx411_1, hx411_2, hx411_3, hx411_4, hx411_5, HC411_2, HR411_2, HC411_5, HR411_5, p411, q411⟩ := q0q HB.out HR0_0.out a1 zc zc
    cases e411
    go_wp2
    go_ret
    exact ⟨_, by first | rfl | (simp [q04, q03] <;> rfl) | (simp [*, q04, q03] <;> rfl), by (with_reducible repeat (first | apply rA | apply rN | apply rD)); exact HO_5.out, by repeat (first | (with_reducible first | exact HB.out | apply bA | apply bN | apply bD | refine bS ?_ GE407.out) | exact HB.out)⟩
end Go.Proofs.YthjnallbbhnndaaDoor.XSp
namespace Go.Proofs.YthjnallbbhnndaaDoor.Dm
open Go Go.RowKit Go.Proofs.YthjnallbbhnndaaDoor.XSp Go.Proofs.YthjnallbbhnndaaDoorW.PrintWords Go.Proofs.YthjnallbbhnndaaDoorW.PrintLast
def idx : List Int → Int → Nat
  | [], _ => 0
  | y :: t, x => if y = x then 0 else idx t x + 1
theorem idx_mid : ∀ (U V : List Int) (x : Int), x ∉ U → idx (U ++ x :: V) x = U.length
  | [], V, x, _ => by simp [idx]
  | u :: U, V, x, h => by
    have h1 : ¬ u = x := fun e => h (by simp [e])
    have h2 : x ∉ U := fun e => h (by simp [e])
    rw [List.cons_append, idx, if_neg h1, idx_mid U V x h2]
    rfl
theorem rd_mid (U V : List Int) (x : Int) : rd (U ++ x :: V) (U.length : Int) = x := by
  simp [rd, List.getD]
def hdI : List Int → Int
  | [] => -1
  | b :: _ => b
def lsI (l : List Int) : Int := l.getLast?.getD (-1)
theorem lsI_snoc (l : List Int) (x : Int) : lsI (l ++ [x]) = x := by simp [lsI]
theorem lsI_app (l m : List Int) (h : m ≠ []) : lsI (l ++ m) = lsI m := by
  unfold lsI
  rw [List.getLast?_append]
  cases hm : m.getLast? with
  | none => exact absurd (List.getLast?_eq_none_iff.1 hm) h
  | some a => rfl
def q1z (ns : List S43) (x by_ : Int) : Int :=
  if par ns x < 0 then -1 else
    if (idx (kidL ns (par ns x)) x : Int) + by_ < 0 ∨ (idx (kidL ns (par ns x)) x : Int) + by_ ≥ ((kidL ns (par ns x)).length : Int) then -1 else rd (kidL ns (par ns x)) ((idx (kidL ns (par ns x)) x : Int) + by_)
def overI (ns : List S43) : Nat → Int → Int
  | 0, _ => -1
  | d + 1, x => if q1z ns x 1 ≥ 0 then q1z ns x 1 else if par ns x < 0 then -1 else overI ns d (par ns x)
def lastD (ns : List S43) : Nat → Int → Int
  | 0, x => x
  | d + 1, x => if (kidL ns x).length = 0 then x else lastD ns d (rd (kidL ns x) ((kidL ns x).length - 1 : Int))
def lastI (ns : List S43) (x : Int) : Int := if q1z ns x (-1) < 0 then par ns x else lastD ns (41 - q0x ns (q1z ns x (-1))) (q1z ns x (-1))
theorem sub_ne {ns : List S43} (h : Tree ns) {i : Int} (h0 : 0 ≤ i) (h1 : i < ns.length) : sub ns i ≠ [] := by rw [sub_eq h h0 h1]; simp
theorem last_sub {ns : List S43} (h : Tree ns) : ∀ (d : Nat) (i : Int), 41 - q0x ns i = d → 0 ≤ i → i < ns.length → lsI (sub ns i) = lastD ns d i
  | 0, i, hd, h0, h1 => by
    have := (h.deep i h0 h1).1
    omega
  | d + 1, i, hd, h0, h1 => by
    rw [sub_eq h h0 h1, lastD]
    by_cases c : (kidL ns i).length = 0
    · rw [if_pos c, List.eq_nil_of_length_eq_zero c]
      rfl
    · rw [if_neg c]
      obtain ⟨U, u, hU⟩ : ∃ U u, kidL ns i = U ++ [u] := ⟨(kidL ns i).dropLast, (kidL ns i).getLast (fun e => c (by rw [e]; rfl)), (List.dropLast_concat_getLast _).symm⟩
      have hm : u ∈ kidL ns i := by rw [hU]; simp
      obtain ⟨u0, u1, _⟩ := h.kid i u h0 h1 hm
      have hk := q17 h h0 h1 hm
      rw [hU]
      have e1 : rd (U ++ [u]) (((U ++ [u]).length : Int) - 1) = u := by
        rw [show (((U ++ [u]).length : Int) - 1) = (U.length : Int) by simp]
        exact rd_mid U [] u
      rw [e1, List.flatMap_append, List.flatMap_cons, List.flatMap_nil, List.append_nil, ← List.cons_append, lsI_app _ _ (sub_ne h u0 u1), last_sub h d u (by omega) u0 u1]
theorem way {ns : List S43} (h : Tree ns) : ∀ (d : Nat) (x : Int), q0x ns x = d → 0 ≤ x → x < ns.length → upN ns d x = 0 →
    ∃ A B, sub ns 0 = A ++ sub ns x ++ B ∧ overI ns (d + 1) x = hdI B ∧ lastI ns x = lsI A
  | 0, x, hd, h0, h1, hu => by
    obtain rfl : x = 0 := hu
    have hb : ∀ b, q1z ns 0 b = -1 := fun b => by unfold q1z; rw [if_pos (by rw [h.root]; decide)]
    refine ⟨[], [], by simp, ?_, ?_⟩
    · rw [overI, hb, if_neg (by decide), h.root, if_pos (by decide)]
      rfl
    · unfold lastI
      rw [hb, if_pos (by decide), h.root]
      rfl
  | d + 1, x, hd, h0, h1, hu => by
    have hp : ¬ par ns x < 0 := fun hp => by
      have := deep_root h hp
      omega
    obtain ⟨p, hpe⟩ : ∃ p, par ns x = p := ⟨_, rfl⟩
    rcases h.up x h0 h1 with hr | ⟨p0, p1, hx⟩
    · omega
    have hdp := deep_up h h0 h1 p0
    rw [hpe] at p0 p1 hx hdp hp
    have hu' : upN ns d p = 0 := by
      have : upN ns (d + 1) x = upN ns d (par ns x) := rfl
      rw [hpe] at this
      rw [← this]
      exact hu
    obtain ⟨A, B, hs, ho, hl⟩ := way h d p (by omega) p0 p1 hu'
    obtain ⟨U, V, hk⟩ := List.append_of_mem hx
    have hn := h.once p p0 p1
    rw [hk] at hn
    have hxU : x ∉ U := fun hxU => by
      have := List.nodup_append.1 hn
      exact this.2.2 x hxU x (by simp) rfl
    have hix : idx (kidL ns p) x = U.length := by rw [hk]; exact idx_mid U V x hxU
    have hlen : (kidL ns p).length = U.length + 1 + V.length := by rw [hk]; simp; omega
    have bes : ∀ b, q1z ns x b = if (U.length : Int) + b < 0 ∨ (U.length : Int) + b ≥ ((U.length + 1 + V.length : Nat) : Int) then -1 else rd (U ++ x :: V) ((U.length : Int) + b) := by
      intro b
      unfold q1z
      rw [hpe, if_neg hp, hix, hlen, hk]
    refine ⟨A ++ p :: U.flatMap (sub ns), V.flatMap (sub ns) ++ B, ?_, ?_, ?_⟩
    · rw [hs, sub_eq h p0 p1, hk, List.flatMap_append, List.flatMap_cons]
      simp [List.append_assoc]
    · have step : overI ns (d + 1 + 1) x = if q1z ns x 1 ≥ 0 then q1z ns x 1 else if p < 0 then -1 else overI ns (d + 1) p := by rw [overI, hpe]
      rw [step]
      cases V with
      | nil =>
        have b1 : q1z ns x 1 = -1 := by
          rw [bes]
          exact if_pos (.inr (by simp))
        rw [b1, if_neg (by decide), if_neg hp, ho]
        rfl
      | cons v V =>
        have hv : v ∈ kidL ns p := by rw [hk]; simp
        obtain ⟨v0, v1, _⟩ := h.kid p v p0 p1 hv
        have e : rd (U ++ x :: v :: V) ((U.length : Int) + 1) = v := by
          have := rd_mid (U ++ [x]) V v
          rw [List.append_assoc] at this
          simpa using this
        have b1 : q1z ns x 1 = v := by
          rw [bes, if_neg (by simp only [List.length_cons]; omega), e]
        rw [b1, if_pos v0, List.flatMap_cons, sub_eq h v0 v1]
        rfl
    · unfold lastI
      rcases List.eq_nil_or_concat U with hU | ⟨U', u, hU⟩
      · subst hU
        have b1 : q1z ns x (-1) = -1 := by
          rw [bes]
          exact if_pos (.inl (by simp))
        rw [b1, if_pos (by decide), hpe, List.flatMap_nil]
        exact (lsI_snoc A p).symm
      · rw [List.concat_eq_append] at hU
        subst hU
        have hv : u ∈ kidL ns p := by rw [hk]; simp
        obtain ⟨u0, u1, _⟩ := h.kid p u p0 p1 hv
        have e : rd (U' ++ [u] ++ x :: V) (((U' ++ [u]).length : Int) + -1) = u := by
          have := rd_mid U' (x :: V) u
          rw [show (((U' ++ [u]).length : Int) + -1) = (U'.length : Int) by (simp only [List.length_append, List.length_cons, List.length_nil]; omega), List.append_assoc]
          exact this
        have b1 : q1z ns x (-1) = u := by
          rw [bes, if_neg (by simp only [List.length_append, List.length_cons, List.length_nil]; omega), e]
        rw [b1, if_neg (by omega), List.flatMap_append, List.flatMap_cons, List.flatMap_nil, List.append_nil, ← List.cons_append, ← List.append_assoc, lsI_app _ _ (sub_ne h u0 u1), last_sub h _ u rfl u0 u1]
end Go.Proofs.YthjnallbbhnndaaDoor.Dm
namespace Go.Proofs.YthjnallbbhnndaaDoor.Dm
open Go Go.RowKit Go.Proofs.YthjnallbbhnndaaDoor.XSp Go.Proofs.YthjnallbbhnndaaDoorW.PrintWords Go.Proofs.YthjnallbbhnndaaDoorW.PrintLast
def cmpL : List Int → List Int → Int
  | [], [] => 0
  | [], _ :: _ => -1
  | _ :: _, [] => 1
  | x :: a, y :: b => if x < y then -1 else if y < x then 1 else cmpL a b
theorem cmpL_self : ∀ a, cmpL a a = 0
  | [] => rfl
  | x :: a => by rw [cmpL, if_neg (Int.lt_irrefl x), if_neg (Int.lt_irrefl x), cmpL_self a]
theorem cmpL_app : ∀ p a b, cmpL (p ++ a) (p ++ b) = cmpL a b
  | [], _, _ => rfl
  | x :: p, a, b => by rw [List.cons_append, List.cons_append, cmpL, if_neg (Int.lt_irrefl x), if_neg (Int.lt_irrefl x), cmpL_app p a b]
theorem cmpL_swap : ∀ a b, cmpL b a = - cmpL a b
  | [], [] => rfl
  | [], _ :: _ => rfl
  | _ :: _, [] => rfl
  | x :: a, y :: b => by
    rw [cmpL, cmpL]
    by_cases h1 : x < y
    · rw [if_neg (by omega), if_pos h1, if_pos h1]; rfl
    · by_cases h2 : y < x
      · rw [if_pos h2, if_neg h1, if_pos h2]
      · rw [if_neg h2, if_neg h1, if_neg h1, if_neg h2, cmpL_swap a b]
theorem cmpL_lt (p : List Int) {x y : Int} (a b : List Int) (h : x < y) : cmpL (p ++ x :: a) (p ++ y :: b) = -1 := by
  rw [cmpL_app, cmpL, if_pos h]
def tl (ns : List S43) (i : Int) : Nat := (q00 ns i).f3.size
def txtM (i : Int) (n : Nat) : List (Int × Int) := (List.range n).map fun j : Nat => (i, (j : Int) + 1)
def q1j (f : Int → List (Int × Int)) (i : Int) : Nat → List Int → List (Int × Int)
  | _, [] => []
  | j, c :: t => f c ++ (i, (j : Int) + 1) :: q1j f i (j + 1) t
def mkD (ns : List S43) : Nat → Int → List (Int × Int)
  | 0, _ => []
  | d + 1, i => (i, 0) :: (q1j (mkD ns d) i 0 (kidL ns i) ++ txtM i (tl ns i))
def mk (ns : List S43) (i : Int) : List (Int × Int) := mkD ns (41 - q0x ns i) i
theorem kidsM_congr {f g : Int → List (Int × Int)} (i : Int) : ∀ (l : List Int) (j : Nat), (∀ x ∈ l, f x = g x) → q1j f i j l = q1j g i j l
  | [], _, _ => rfl
  | x :: t, j, h => by rw [q1j, q1j, h x (by simp), kidsM_congr i t (j + 1) fun y hy => h y (by simp [hy])]
theorem mk_eq {ns : List S43} (h : Tree ns) {i : Int} (h0 : 0 ≤ i) (h1 : i < ns.length) : mk ns i = (i, 0) :: (q1j (mk ns) i 0 (kidL ns i) ++ txtM i (tl ns i)) := by
  have hd := (h.deep i h0 h1).1
  obtain ⟨m, hm⟩ : ∃ m, 41 - q0x ns i = m + 1 := ⟨40 - q0x ns i, by omega⟩
  have e : mk ns i = (i, 0) :: (q1j (mkD ns m) i 0 (kidL ns i) ++ txtM i (tl ns i)) := by unfold mk; rw [hm]; rfl
  rw [e]
  congr 2
  refine kidsM_congr i _ _ fun c hc => ?_
  unfold mk
  rw [q17 h h0 h1 hc, show 41 - (q0x ns i + 1) = m by omega]
def pathD (ns : List S43) : Nat → Int → List Int
  | 0, _ => []
  | d + 1, i => pathD ns d (par ns i) ++ [2 * (idx (kidL ns (par ns i)) i : Int) + 1]
def pathU (ns : List S43) (i : Int) : List Int := pathD ns (q0x ns i) i
theorem pathU_kid {ns : List S43} (h : Tree ns) {i c : Int} (h0 : 0 ≤ i) (h1 : i < ns.length) (hc : c ∈ kidL ns i) : pathU ns c = pathU ns i ++ [2 * (idx (kidL ns i) c : Int) + 1] := by
  have := (h.kid i c h0 h1 hc).2.2
  unfold pathU
  rw [q17 h h0 h1 hc, pathD, this]
def wayP (ns : List S43) (m : Int × Int) : List Int := pathU ns m.1 ++ [2 * m.2]
def Leafy (ns : List S43) : Prop := ∀ i : Int, 0 ≤ i → i < ns.length → tl ns i = 0 ∨ kidL ns i = []
theorem mem_txt {i : Int} {n : Nat} {m : Int × Int} : m ∈ txtM i n ↔ m.1 = i ∧ 0 < m.2 ∧ m.2 ≤ n := by
  unfold txtM
  rw [List.mem_map]
  constructor
  · rintro ⟨j, hj, rfl⟩
    have := List.mem_range.1 hj
    refine ⟨rfl, ?_, ?_⟩ <;> simp only <;> omega
  · rintro ⟨h1, h2, h3⟩
    exact ⟨(m.2 - 1).toNat, List.mem_range.2 (by omega), Prod.ext h1.symm (by simp only; omega)⟩
theorem mem_kidsM {f : Int → List (Int × Int)} {i : Int} {m : Int × Int} : ∀ {l : List Int} {j : Nat}, m ∈ q1j f i j l ↔ (∃ c ∈ l, m ∈ f c) ∨ m.1 = i ∧ (j : Int) < m.2 ∧ m.2 ≤ j + l.length
  | [], j => by
    simp only [q1j, List.not_mem_nil, List.length_nil, false_and, exists_false, false_or, false_iff]
    omega
  | c :: t, j => by
    rw [q1j, List.mem_append, List.mem_cons, mem_kidsM (l := t) (j := j + 1)]
    simp only [List.mem_cons, List.length_cons]
    constructor
    · rintro (h | rfl | ⟨c', hc, h⟩ | h)
      · exact .inl ⟨c, .inl rfl, h⟩
      · exact .inr ⟨rfl, by simp only; omega, by simp only; omega⟩
      · exact .inl ⟨c', .inr hc, h⟩
      · exact .inr ⟨h.1, by omega, by omega⟩
    · rintro (⟨c', rfl | hc, h⟩ | h)
      · exact .inl h
      · exact .inr (.inr (.inl ⟨c', hc, h⟩))
      · by_cases e : m.2 = (j : Int) + 1
        · exact .inr (.inl (Prod.ext h.1 e))
        · exact .inr (.inr (.inr ⟨h.1, by omega, by omega⟩))
theorem mk_mem {ns : List S43} (h : Tree ns) : ∀ (d : Nat) (i : Int), 41 - q0x ns i ≤ d → 0 ≤ i → i < ns.length → ∀ m, m ∈ mk ns i ↔ m.1 ∈ sub ns i ∧ 0 ≤ m.2 ∧ (m.2 ≤ (kidL ns m.1).length ∨ m.2 ≤ tl ns m.1)
  | 0, i, hd, h0, h1, m => by
    have := (h.deep i h0 h1).1
    omega
  | d + 1, i, hd, h0, h1, m => by
    have hdi := (h.deep i h0 h1).1
    have ih : ∀ c ∈ kidL ns i, (m ∈ mk ns c ↔ m.1 ∈ sub ns c ∧ 0 ≤ m.2 ∧ (m.2 ≤ (kidL ns m.1).length ∨ m.2 ≤ tl ns m.1)) := fun c hc => by
      obtain ⟨c0, c1, _⟩ := h.kid i c h0 h1 hc
      have := q17 h h0 h1 hc
      exact mk_mem h d c (by omega) c0 c1 m
    rw [mk_eq h h0 h1, sub_eq h h0 h1, List.mem_cons, List.mem_append, mem_kidsM, mem_txt, List.mem_cons, List.mem_flatMap]
    constructor
    · rintro (rfl | (⟨c, hc, hm⟩ | hm) | hm)
      · exact ⟨.inl rfl, Int.le_refl _, .inl (by simp only; omega)⟩
      · have := (ih c hc).1 hm
        exact ⟨.inr ⟨c, hc, this.1⟩, this.2⟩
      · exact ⟨.inl hm.1, by omega, .inl (by rw [hm.1]; omega)⟩
      · exact ⟨.inl hm.1, by omega, .inr (by rw [hm.1]; omega)⟩
    · rintro ⟨hm | ⟨c, hc, hm⟩, hr⟩
      · rw [hm] at hr
        by_cases e : m.2 = 0
        · exact .inl (Prod.ext hm e)
        · rcases hr.2 with hk | ht
          · exact .inr (.inl (.inr ⟨hm, by omega, by omega⟩))
          · exact .inr (.inr ⟨hm, by omega, by omega⟩)
      · exact .inr (.inl (.inl ⟨c, hc, (ih c hc).2 ⟨hm, hr⟩⟩))
theorem mem_mk {ns : List S43} (h : Tree ns) {i : Int} (h0 : 0 ≤ i) (h1 : i < ns.length) (m : Int × Int) : m ∈ mk ns i ↔ m.1 ∈ sub ns i ∧ 0 ≤ m.2 ∧ (m.2 ≤ (kidL ns m.1).length ∨ m.2 ≤ tl ns m.1) := mk_mem h _ i (Nat.le_refl _) h0 h1 m
theorem sub_way {ns : List S43} (h : Tree ns) : ∀ (d : Nat) (i : Int), 41 - q0x ns i ≤ d → 0 ≤ i → i < ns.length → ∀ x ∈ sub ns i, x = i ∨ ∃ c ∈ kidL ns i, ∃ r, x ∈ sub ns c ∧ pathU ns x = pathU ns i ++ (2 * (idx (kidL ns i) c : Int) + 1) :: r
  | 0, i, hd, h0, h1, x, hx => by
    have := (h.deep i h0 h1).1
    omega
  | d + 1, i, hd, h0, h1, x, hx => by
    have hdi := (h.deep i h0 h1).1
    rw [sub_eq h h0 h1] at hx
    rcases List.mem_cons.1 hx with rfl | hx
    · exact .inl rfl
    · obtain ⟨c, hc, hx⟩ := List.mem_flatMap.1 hx
      obtain ⟨c0, c1, _⟩ := h.kid i c h0 h1 hc
      have hk := q17 h h0 h1 hc
      have hp := pathU_kid h h0 h1 hc
      refine .inr ⟨c, hc, ?_⟩
      rcases sub_way h d c (by omega) c0 c1 x hx with rfl | ⟨c', hc', r, hx', hr⟩
      · exact ⟨[], hx, hp⟩
      · exact ⟨_, hx, by rw [hr, hp, List.append_assoc]; rfl⟩
theorem way_in {ns : List S43} (h : Tree ns) {i c : Int} (h0 : 0 ≤ i) (h1 : i < ns.length) (hc : c ∈ kidL ns i) {m : Int × Int} (hm : m ∈ mk ns c) : ∃ r, wayP ns m = pathU ns i ++ (2 * (idx (kidL ns i) c : Int) + 1) :: r := by
  obtain ⟨c0, c1, _⟩ := h.kid i c h0 h1 hc
  have hp := pathU_kid h h0 h1 hc
  unfold wayP
  rcases sub_way h _ c (Nat.le_refl _) c0 c1 m.1 ((mem_mk h c0 c1 m).1 hm).1 with e | ⟨c', hc', r, _, hr⟩
  · rw [e, hp, List.append_assoc]
    exact ⟨_, rfl⟩
  · rw [hr, hp, List.append_assoc, List.append_assoc]
    exact ⟨_, rfl⟩
theorem idx_at {U V : List Int} {c : Int} (hn : (U ++ c :: V).Nodup) : idx (U ++ c :: V) c = U.length :=
  idx_mid U V c fun hc => (List.nodup_append.1 hn).2.2 c hc c (by simp) rfl
theorem kids_sorted {ns : List S43} (h : Tree ns) {i : Int} (h0 : 0 ≤ i) (h1 : i < ns.length) (hs : ∀ c ∈ kidL ns i, (mk ns c).Pairwise fun a b => cmpL (wayP ns a) (wayP ns b) = -1) :
    ∀ (t U : List Int), kidL ns i = U ++ t → (q1j (mk ns) i U.length t).Pairwise (fun a b => cmpL (wayP ns a) (wayP ns b) = -1) ∧ ∀ m ∈ q1j (mk ns) i U.length t, ∃ x r, wayP ns m = pathU ns i ++ x :: r ∧ 2 * (U.length : Int) + 1 ≤ x
  | [], U, e => ⟨List.Pairwise.nil, fun m hm => absurd hm (by simp [q1j])⟩
  | c :: t, U, e => by
    have hc : c ∈ kidL ns i := by rw [e]; simp
    have hi : idx (kidL ns i) c = U.length := by
      have hn := h.once i h0 h1
      rw [e] at hn ⊢
      exact idx_at hn
    obtain ⟨ih1, ih2⟩ := kids_sorted h h0 h1 hs t (U ++ [c]) (by rw [e]; simp)
    rw [List.length_append, List.length_singleton] at ih1 ih2
    have hw : ∀ m ∈ mk ns c, ∃ r, wayP ns m = pathU ns i ++ (2 * (U.length : Int) + 1) :: r := fun m hm => by
      rw [← hi]; exact way_in h h0 h1 hc hm
    have hj : wayP ns (i, (U.length : Int) + 1) = pathU ns i ++ (2 * (U.length : Int) + 2) :: [] := by
      show pathU ns i ++ [2 * ((U.length : Int) + 1)] = _
      congr 2
    rw [q1j]
    refine ⟨List.pairwise_append.2 ⟨hs c hc, List.pairwise_cons.2 ⟨fun m hm => ?_, ih1⟩, fun a ha b hb => ?_⟩, fun m hm => ?_⟩
    · obtain ⟨x, r, hx, hl⟩ := ih2 m hm
      rw [hj, hx]
      exact cmpL_lt _ _ _ (by omega)
    · obtain ⟨r, hr⟩ := hw a ha
      rw [hr]
      rcases List.mem_cons.1 hb with rfl | hb
      · rw [hj]; exact cmpL_lt _ _ _ (by omega)
      · obtain ⟨x, r', hx, hl⟩ := ih2 b hb
        rw [hx]; exact cmpL_lt _ _ _ (by omega)
    · rcases List.mem_append.1 hm with hm | hm
      · obtain ⟨r, hr⟩ := hw m hm
        exact ⟨_, r, hr, Int.le_refl _⟩
      · rcases List.mem_cons.1 hm with rfl | hm
        · exact ⟨_, _, hj, by omega⟩
        · obtain ⟨x, r', hx, hl⟩ := ih2 m hm
          exact ⟨x, r', hx, by omega⟩
theorem txt_sorted (ns : List S43) (i : Int) (n : Nat) : (txtM i n).Pairwise fun a b => cmpL (wayP ns a) (wayP ns b) = -1 := by
  unfold txtM
  rw [List.pairwise_map]
  refine List.pairwise_lt_range.imp fun hab => ?_
  show cmpL (pathU ns i ++ [_]) (pathU ns i ++ [_]) = -1
  exact cmpL_lt _ _ _ (by simp only; omega)
theorem mk_sorted {ns : List S43} (h : Tree ns) (hL : Leafy ns) : ∀ (d : Nat) (i : Int), 41 - q0x ns i ≤ d → 0 ≤ i → i < ns.length → (mk ns i).Pairwise fun a b => cmpL (wayP ns a) (wayP ns b) = -1
  | 0, i, hd, h0, h1 => by
    have := (h.deep i h0 h1).1
    omega
  | d + 1, i, hd, h0, h1 => by
    have hdi := (h.deep i h0 h1).1
    have hs : ∀ c ∈ kidL ns i, (mk ns c).Pairwise fun a b => cmpL (wayP ns a) (wayP ns b) = -1 := fun c hc => by
      obtain ⟨c0, c1, _⟩ := h.kid i c h0 h1 hc
      have := q17 h h0 h1 hc
      exact mk_sorted h hL d c (by omega) c0 c1
    obtain ⟨k1, k2⟩ := kids_sorted h h0 h1 hs (kidL ns i) [] rfl
    have hz : wayP ns (i, 0) = pathU ns i ++ 0 :: [] := rfl
    rw [mk_eq h h0 h1]
    refine List.pairwise_cons.2 ⟨fun m hm => ?_, ?_⟩
    · rw [hz]
      rcases List.mem_append.1 hm with hm | hm
      · obtain ⟨x, r, hx, hl⟩ := k2 m hm
        rw [hx]
        simp only [List.length_nil] at hl
        exact cmpL_lt _ _ _ (by omega)
      · obtain ⟨m1, m2, m3⟩ := mem_txt.1 hm
        rw [show wayP ns m = pathU ns i ++ (2 * m.2) :: [] by unfold wayP; rw [m1]]
        exact cmpL_lt _ _ _ (by omega)
    · rcases hL i h0 h1 with e | e
      · rw [e]
        simpa [txtM] using k1
      · rw [e]
        simpa [q1j] using txt_sorted ns i _
theorem sorted_lt {ns : List S43} {L : List (Int × Int)} (hs : L.Pairwise fun a b => cmpL (wayP ns a) (wayP ns b) = -1) {a b : Int × Int} (ha : a ∈ L) (hb : b ∈ L) : L.idxOf a < L.idxOf b ↔ cmpL (wayP ns a) (wayP ns b) = -1 := by
  have ia := List.idxOf_lt_length_iff.2 ha
  have ib := List.idxOf_lt_length_iff.2 hb
  have ga : L[L.idxOf a] = a := List.getElem_idxOf ia
  have gb : L[L.idxOf b] = b := List.getElem_idxOf ib
  have hp := List.pairwise_iff_getElem.1 hs
  constructor
  · intro hlt
    have := hp _ _ ia ib hlt
    rwa [ga, gb] at this
  · intro hc
    rcases Nat.lt_trichotomy (L.idxOf a) (L.idxOf b) with hlt | he | hgt
    · exact hlt
    · have : a = b := by rw [← ga, ← gb]; congr 1
      subst this
      rw [cmpL_self] at hc
      cases hc
    · have := hp _ _ ib ia hgt
      rw [ga, gb, cmpL_swap, hc] at this
      cases this
theorem sorted_nodup {ns : List S43} {L : List (Int × Int)} (hs : L.Pairwise fun a b => cmpL (wayP ns a) (wayP ns b) = -1) : L.Nodup :=
  hs.imp fun {a b} hab e => by
    subst e
    rw [cmpL_self] at hab
    cases hab
end Go.Proofs.YthjnallbbhnndaaDoor.Dm
namespace Go.Proofs.YthjnallbbhnndaaDoor.Dm
open Go Go.RowKit Go.Proofs.YthjnallbbhnndaaDoor.XSp Go.Proofs.YthjnallbbhnndaaDoorW.PrintWords Go.Proofs.YthjnallbbhnndaaDoorW.PrintLast
def textL (ns : List S43) (i : Int) : List UInt8 := (q00 ns i).f3.data.toList
theorem textL_len (ns : List S43) (i : Int) : (textL ns i).length = tl ns i := rfl
def segP (ns : List S43) (a b : Int × Int) : List UInt8 := if a.1 = b.1 ∧ q1y ns a.1 = 3 then ((textL ns a.1).take b.2.toNat).drop a.2.toNat else []
def segsL (ns : List S43) (f t : Nat) : Nat → List (Int × Int) → List UInt8
  | off, a :: b :: r => (if f ≤ off ∧ off < t then segP ns a b else []) ++ segsL ns f t (off + 1) (b :: r)
  | _, _ => []
def bytN (ns : List S43) (f t : Nat) (n : Int) (s : Nat) : List UInt8 := if q1y ns n = 3 then ((textL ns n).take (t - s)).drop (f - s) else []
theorem segs_one (ns : List S43) (f t off : Nat) (a : Int × Int) : segsL ns f t off [a] = [] := rfl
theorem q1q (ns : List S43) (f t off : Nat) (a b : Int × Int) (r : List (Int × Int)) : segsL ns f t off (a :: b :: r) = (if f ≤ off ∧ off < t then segP ns a b else []) ++ segsL ns f t (off + 1) (b :: r) := rfl
theorem segs_app (ns : List S43) (f t : Nat) (b : Int × Int) (l2 : List (Int × Int)) : ∀ (l1 : List (Int × Int)) (off : Nat), segsL ns f t off (l1 ++ b :: l2) = segsL ns f t off (l1 ++ [b]) ++ segsL ns f t (off + l1.length) (b :: l2)
  | [], off => by simp [segsL]
  | [a], off => by
    show segsL ns f t off (a :: b :: l2) = segsL ns f t off [a, b] ++ _
    rw [q1q, q1q, segs_one, List.append_nil]
    rfl
  | a :: c :: r, off => by
    have ih := segs_app ns f t b l2 (c :: r) (off + 1)
    rw [List.cons_append, List.cons_append] at ih ⊢
    rw [q1q, ih, List.cons_append, List.cons_append, q1q, List.append_assoc]
    simp only [List.length_cons]
    rw [show off + 1 + (r.length + 1) = off + (r.length + 1 + 1) by omega]
theorem segP_far (ns : List S43) {a b : Int × Int} (h : a.1 ≠ b.1) : segP ns a b = [] := if_neg fun e => h e.1
theorem segs_cross (ns : List S43) (f t : Nat) (b : Int × Int) : ∀ (l : List (Int × Int)) (off : Nat), (∀ a ∈ l.getLast?, a.1 ≠ b.1) → segsL ns f t off (l ++ [b]) = segsL ns f t off l
  | [], off, _ => rfl
  | [a], off, h => by
    show segsL ns f t off [a, b] = []
    rw [q1q, segP_far ns (h a rfl), ite_self]
    rfl
  | a :: c :: r, off, h => by
    have ih := segs_cross ns f t b (c :: r) (off + 1) (fun x hx => h x (by simpa using hx))
    rw [List.cons_append] at ih
    rw [List.cons_append, List.cons_append, q1q, ih, q1q]
theorem txt_succ (i : Int) (a : Nat) (n : Nat) : (List.range (n + 1)).map (fun j : Nat => (i, ((a + j : Nat) : Int) + 1)) = (i, (a : Int) + 1) :: (List.range n).map (fun j : Nat => (i, ((a + 1 + j : Nat) : Int) + 1)) := by
  rw [List.range_succ_eq_map, List.map_cons, List.map_map]
  congr 1
  refine List.map_congr_left fun j _ => ?_
  show (i, _) = (i, _)
  congr 2
  omega
theorem segs_txt (ns : List S43) (f t : Nat) (i : Int) (hk : q1y ns i = 3) : ∀ (n a off : Nat), a + n = tl ns i → segsL ns f t off ((i, (a : Int)) :: (List.range n).map (fun j : Nat => (i, ((a + j : Nat) : Int) + 1))) = (((textL ns i).drop a).take (t - off)).drop (f - off)
  | 0, a, off, h => by
    have hnil : (textL ns i).drop a = [] := List.drop_eq_nil_of_le (by rw [textL_len]; omega)
    rw [hnil]
    simp [segsL]
  | n + 1, a, off, h => by
    have hlt : a < (textL ns i).length := by rw [textL_len]; omega
    have ih := segs_txt ns f t i hk n (a + 1) (off + 1) (by omega)
    rw [show ((a + 1 : Nat) : Int) = (a : Int) + 1 by omega] at ih
    rw [txt_succ, q1q, ih, List.drop_eq_getElem_cons hlt]
    have hs : segP ns (i, (a : Int)) (i, (a : Int) + 1) = [(textL ns i)[a]] := by
      unfold segP
      rw [if_pos ⟨rfl, hk⟩]
      show ((textL ns i).take ((a : Int) + 1).toNat).drop (a : Int).toNat = _
      rw [show ((a : Int) + 1).toNat = a + 1 by omega, Int.toNat_natCast, List.take_add_one, List.getElem?_eq_getElem hlt, List.drop_append_of_le_length (by rw [List.length_take]; omega), List.drop_eq_nil_of_le (by rw [List.length_take]; omega)]
      rfl
    rw [hs]
    by_cases c : off < t
    · obtain ⟨t', ht⟩ : ∃ t', t - off = t' + 1 := ⟨t - off - 1, by omega⟩
      rw [ht, List.take_succ_cons, show t - (off + 1) = t' by omega]
      by_cases c2 : f ≤ off
      · rw [if_pos ⟨c2, c⟩, show f - off = 0 by omega, show f - (off + 1) = 0 by omega]
        rfl
      · obtain ⟨f', hf⟩ : ∃ f', f - off = f' + 1 := ⟨f - off - 1, by omega⟩
        rw [if_neg (fun e => c2 e.1), hf, show f - (off + 1) = f' by omega]
        rfl
    · rw [if_neg (fun e => c e.2), show t - off = 0 by omega, show t - (off + 1) = 0 by omega]
      simp
theorem segs_off (ns : List S43) (f t : Nat) (i : Int) (hk : q1y ns i ≠ 3) : ∀ (l : List (Int × Int)) (off : Nat), (∀ m ∈ l, m.1 = i) → segsL ns f t off l = []
  | [], _, _ => rfl
  | [_], _, _ => rfl
  | a :: b :: r, off, h => by
    have ha : a.1 = i := h a (by simp)
    rw [q1q, segs_off ns f t i hk (b :: r) (off + 1) (fun m hm => h m (List.mem_cons_of_mem _ hm)), show segP ns a b = [] from if_neg fun e => hk (by rw [← ha]; exact e.2), ite_self]
    rfl
section
variable {ns : List S43} (h : Tree ns) (hL : Leafy ns)
include h hL
omit hL in
theorem segs_kids (f t : Nat) {i : Int} (h0 : 0 ≤ i) (h1 : i < ns.length)
    (ih : ∀ c ∈ kidL ns i, ∀ off, segsL ns f t off (mk ns c) = (sub ns c).flatMap fun n => bytN ns f t n (off + (mk ns c).idxOf (n, 0))) :
    ∀ (l U : List Int) (x : Int × Int) (off : Nat), kidL ns i = U ++ l → x.1 = i → (x :: q1j (mk ns) i U.length l).Nodup → segsL ns f t off (x :: q1j (mk ns) i U.length l) = l.flatMap fun c => (sub ns c).flatMap fun n => bytN ns f t n (off + (x :: q1j (mk ns) i U.length l).idxOf (n, 0))
  | [], U, x, off, e, hx, hn => rfl
  | c :: r, U, x, off, e, hx, hn => by
    have hc : c ∈ kidL ns i := by rw [e]; simp
    obtain ⟨c0, c1, cp⟩ := h.kid i c h0 h1 hc
    have hne : ∀ n ∈ sub ns c, n ≠ i := fun n hn' en => by
      subst en
      have h2 := (q1i h c0 c1 hn').2.2.1
      have h3 := q17 h h0 h1 hc
      omega
    have hmn : ∀ m ∈ mk ns c, m.1 ≠ i := fun m hm => hne _ ((mem_mk h c0 c1 m).1 hm).1
    have hin : ∀ n ∈ sub ns c, (n, 0) ∈ mk ns c := fun n hn' => (mem_mk h c0 c1 _).2 ⟨hn', Int.le_refl _, .inl (by simp only; omega)⟩
    have hxo : ∀ n : Int, n ≠ i → x ≠ (n, (0 : Int)) := fun n hn' ex => hn' (by rw [← hx, ex])
    rw [q1j] at hn ⊢
    have e2 := segs_kids f t h0 h1 ih r (U ++ [c]) (i, (U.length : Int) + 1) (off + (x :: mk ns c).length) (by rw [e]; simp) rfl (by
      rw [List.length_append, List.length_singleton]
      exact (List.nodup_append.1 (List.nodup_cons.1 hn).2).2.1)
    rw [List.length_append, List.length_singleton] at e2
    rw [show x :: (mk ns c ++ (i, (U.length : Int) + 1) :: q1j (mk ns) i (U.length + 1) r) = (x :: mk ns c) ++ (i, (U.length : Int) + 1) :: q1j (mk ns) i (U.length + 1) r from rfl, segs_app, e2]
    have hlast : segsL ns f t off ((x :: mk ns c) ++ [(i, (U.length : Int) + 1)]) = segsL ns f t (off + 1) (mk ns c) := by
      rw [segs_cross]
      · rw [mk_eq h c0 c1, q1q, segP_far ns (show x.1 ≠ (c, (0 : Int)).1 from fun ex => hne c (by rw [sub_eq h c0 c1]; simp) (by rw [← hx]; exact ex.symm)), ite_self]
        rfl
      · intro a ha
        have hmk : mk ns c ≠ [] := by rw [mk_eq h c0 c1]; simp
        rw [List.getLast?_cons_of_ne_nil hmk] at ha
        exact hmn a (List.mem_of_getLast? ha)
    rw [hlast, ih c hc (off + 1), List.flatMap_cons]
    congr 1
    · refine q26 fun n hn' => ?_
      congr 1
      rw [List.cons_append, List.idxOf_cons, beq_false_of_ne (hxo n (hne n hn')), cond_false, List.idxOf_append, if_pos (hin n hn')]
      omega
    · refine q26 fun c' hc' => q26 fun n hn' => ?_
      obtain ⟨c0', c1', _⟩ := h.kid i c' h0 h1 (by rw [e]; simp [hc'])
      congr 1
      have hno : (n, (0 : Int)) ∉ x :: mk ns c := by
        intro hm
        have hm2 : (n, (0 : Int)) ∈ q1j (mk ns) i (U.length + 1) r := mem_kidsM.2 (.inl ⟨c', hc', (mem_mk h c0' c1' _).2 ⟨hn', Int.le_refl _, .inl (by simp only; omega)⟩⟩)
        have hnd := List.nodup_append.1 (show ((x :: mk ns c) ++ (i, (U.length : Int) + 1) :: q1j (mk ns) i (U.length + 1) r).Nodup from hn)
        exact hnd.2.2 _ hm _ (List.mem_cons_of_mem _ hm2) rfl
      rw [List.idxOf_append, if_neg hno]
      omega
theorem segs_mk (f t : Nat) : ∀ (d : Nat) (i : Int), 41 - q0x ns i ≤ d → 0 ≤ i → i < ns.length → ∀ off, segsL ns f t off (mk ns i) = (sub ns i).flatMap fun n => bytN ns f t n (off + (mk ns i).idxOf (n, 0))
  | 0, i, hd, h0, h1, off => by
    have := (h.deep i h0 h1).1
    omega
  | d + 1, i, hd, h0, h1, off => by
    have hdi := (h.deep i h0 h1).1
    have hnd := sorted_nodup (mk_sorted h hL _ i (Nat.le_refl _) h0 h1)
    have hz : (mk ns i).idxOf (i, 0) = 0 := by rw [mk_eq h h0 h1]; simp
    rw [sub_eq h h0 h1, List.flatMap_cons, hz, Nat.add_zero]
    rcases hL i h0 h1 with e | e
    · have hb : bytN ns f t i off = [] := by
        unfold bytN
        split
        · rw [List.eq_nil_of_length_eq_zero (show (textL ns i).length = 0 from e)]; simp
        · rfl
      have hm : mk ns i = (i, 0) :: q1j (mk ns) i ([] : List Int).length (kidL ns i) := by rw [mk_eq h h0 h1, e]; simp [txtM]
      rw [hb, List.nil_append, List.flatMap_assoc]
      rw [hm] at hnd ⊢
      exact segs_kids h f t h0 h1 (fun c hc off => segs_mk f t d c (by have := q17 h h0 h1 hc; omega) (h.kid i c h0 h1 hc).1 (h.kid i c h0 h1 hc).2.1 off) (kidL ns i) [] (i, 0) off rfl rfl hnd
    · rw [e, List.flatMap_nil, List.flatMap_nil, List.append_nil]
      have hm : mk ns i = (i, ((0 : Nat) : Int)) :: (List.range (tl ns i)).map (fun j : Nat => (i, ((0 + j : Nat) : Int) + 1)) := by
        rw [mk_eq h h0 h1, e]
        simp [q1j, txtM]
      unfold bytN
      by_cases hk : q1y ns i = 3
      · rw [if_pos hk, hm, segs_txt ns f t i hk _ 0 off (by omega), List.drop_zero]
      · rw [if_neg hk]
        refine segs_off ns f t i hk _ _ fun m hm' => ?_
        rw [hm] at hm'
        rcases List.mem_cons.1 hm' with rfl | hm'
        · rfl
        · obtain ⟨j, _, rfl⟩ := List.mem_map.1 hm'
          rfl
omit hL in
theorem mk_in : ∀ (d : Nat) (i : Int), 41 - q0x ns i ≤ d → 0 ≤ i → i < ns.length → ∀ n ∈ sub ns i, ∃ P Q, mk ns i = P ++ mk ns n ++ Q
  | 0, i, hd, h0, h1, n, hn => by
    have := (h.deep i h0 h1).1
    omega
  | d + 1, i, hd, h0, h1, n, hn => by
    have hdi := (h.deep i h0 h1).1
    rw [sub_eq h h0 h1] at hn
    rcases List.mem_cons.1 hn with rfl | hn
    · exact ⟨[], [], by simp⟩
    · obtain ⟨c, hc, hn⟩ := List.mem_flatMap.1 hn
      obtain ⟨c0, c1, _⟩ := h.kid i c h0 h1 hc
      obtain ⟨P, Q, e⟩ := mk_in d c (by have := q17 h h0 h1 hc; omega) c0 c1 n hn
      have : ∀ (l : List Int) (j : Nat), c ∈ l → ∃ P' Q', q1j (mk ns) i j l = P' ++ mk ns c ++ Q' := by
        intro l
        induction l with
        | nil => intro j hm; simp at hm
        | cons a r ihr =>
          intro j hm
          by_cases ea : c = a
          · subst ea; exact ⟨[], (i, (j : Int) + 1) :: q1j (mk ns) i (j + 1) r, by simp [q1j]⟩
          · obtain ⟨P', Q', e'⟩ := ihr (j + 1) ((List.mem_cons.1 hm).resolve_left ea)
            exact ⟨mk ns a ++ (i, (j : Int) + 1) :: P', Q', by rw [q1j, e']; simp⟩
      obtain ⟨P', Q', e'⟩ := this (kidL ns i) 0 hc
      exact ⟨(i, 0) :: (P' ++ P), Q ++ Q' ++ txtM i (tl ns i), by rw [mk_eq h h0 h1, e', e]; simp⟩
end
end Go.Proofs.YthjnallbbhnndaaDoor.Dm
namespace Go.Proofs.YthjnallbbhnndaaDoor.Dm
open Go Go.RowKit Go.Proofs.YthjnallbbhnndaaDoor.XSp Go.Proofs.YthjnallbbhnndaaDoorW.PrintWords Go.Proofs.YthjnallbbhnndaaDoorW.PrintLast
def idxI (l : List Int) (x : Int) : Int := if hasK l x = true then (idx l x : Int) else -1
theorem hasK_cons (y : Int) (t : List Int) (x : Int) : hasK (y :: t) x = (decide (y = x) || hasK t x) := rfl
theorem index_l0 (o : List Int) (x : Int) (ho : o.length ≤ 4611686018427387900) (d : Nat) : ∀ (i k : Nat), i + d = o.length → d < k →
    slices_Index_int_int.l0 k o x (o.length : Int) (i : Int) = some (if hasK (o.drop i) x = true then ((i + idx (o.drop i) x : Nat) : Int) else -1) := by
  induction d with
  | zero =>
    intro i k h hk
    obtain ⟨k, rfl⟩ : ∃ z, k = z + 1 := ⟨k - 1, by omega⟩
    rw [slices_Index_int_int.l0, if_neg (by omega), List.drop_eq_nil_of_le (by omega)]
    rfl
  | succ d ih =>
    intro i k h hk
    obtain ⟨k, rfl⟩ : ∃ z, k = z + 1 := ⟨k - 1, by omega⟩
    rw [slices_Index_int_int.l0, if_pos (by omega), if_pos (by omega), if_pos (by omega), w1 i (by omega), ih (i + 1) k (by omega) (by omega), dropK o i (by omega), hasK_cons, idx]
    by_cases c : x = rd o (i : Int)
    · rw [if_pos c, decide_eq_true c.symm, Bool.true_or, if_pos rfl, if_pos c.symm]
      rfl
    · rw [if_neg c, decide_eq_false (p := rd o (i : Int) = x) (fun e => c e.symm), Bool.false_or, if_neg (c := rd o (i : Int) = x) (fun e => c e.symm)]
      split
      · congr 1
        omega
      · rfl
theorem index_eq (o : List Int) (x : Int) (ho : o.length ≤ 4611686018427387900) (k : Nat) (hk : o.length < k) : slices_Index_int_int.f k o x = some (idxI o x) := by
  unfold slices_Index_int_int.f
  have := index_l0 o x ho o.length 0 k (by omega) hk
  rw [List.drop_zero, show ((0 : Nat) : Int) = 0 from rfl, Nat.zero_add] at this
  exact this
theorem idxI_mem {l : List Int} {x : Int} (h : x ∈ l) : idxI l x = (idx l x : Int) := if_pos ((mem_hasK l x).2 h)
theorem idx_lt : ∀ {l : List Int} {x : Int}, x ∈ l → idx l x < l.length
  | y :: t, x, h => by
    unfold idx
    by_cases c : y = x
    · rw [if_pos c]; simp
    · rw [if_neg c]
      have := idx_lt (l := t) (x := x) (by
        rcases List.mem_cons.1 h with e | e
        · exact absurd e.symm c
        · exact e)
      simp only [List.length_cons]
      omega
theorem rd_set (l : List Int) (a m : Nat) (v : Int) (ha : a < l.length) : rd (l.set a v) (m : Int) = if m = a then v else rd l (m : Int) := by
  unfold rd
  simp only [List.getD_eq_getElem?_getD, List.getElem?_set, Int.toNat_natCast]
  by_cases h : m = a
  · subst h; simp [ha]
  · rw [if_neg (fun e => h e.symm), if_neg h]
theorem rev_l0 (l : List Int) (hl : l.length ≤ 4611686018427387900) (d : Nat) : ∀ (x : List Int) (i k : Nat), x.length = l.length → l.length - 2 * i ≤ d → 2 * i ≤ l.length + 1 → d < k → (∀ m : Nat, m < l.length → rd x (m : Int) = if m < i ∨ l.length - 1 - i < m then rd l ((l.length - 1 - m : Nat) : Int) else rd l (m : Int)) →
    ∃ r, slices_Reverse_int_int.l0 k x (i : Int) ((l.length : Int) - 1 - i) = some r ∧ r.length = l.length ∧ ∀ m : Nat, m < l.length → rd r (m : Int) = rd l ((l.length - 1 - m : Nat) : Int) := by
  induction d with
  | zero =>
    intro x i k hx hd h2 hk hI
    obtain ⟨k, rfl⟩ : ∃ z, k = z + 1 := ⟨k - 1, by omega⟩
    refine ⟨x, by rw [slices_Reverse_int_int.l0, if_neg (by omega)], hx, fun m hm => ?_⟩
    rw [hI m hm]
    split
    · rfl
    · rw [show l.length - 1 - m = m by omega]
  | succ d ih =>
    intro x i k hx hd h2 hk hI
    obtain ⟨k, rfl⟩ : ∃ z, k = z + 1 := ⟨k - 1, by omega⟩
    by_cases c : (i : Int) < (l.length : Int) - 1 - i
    · obtain ⟨j, hj⟩ : ∃ j : Nat, (l.length : Int) - 1 - i = (j : Int) := ⟨l.length - 1 - i, by omega⟩
      rw [slices_Reverse_int_int.l0, if_pos c, hj, if_pos (by omega), if_pos (by omega), if_pos (by omega), if_pos (by omega)]
      rw [w1 i (by omega), wm j (by omega), show ((i : Nat) : Int).toNat = i from rfl, show ((j : Nat) : Int).toNat = j from rfl, show (j : Int) - 1 = (l.length : Int) - 1 - ((i + 1 : Nat) : Int) by omega]
      refine ih _ (i + 1) k (by rw [List.length_set, List.length_set]; exact hx) (by omega) (by omega) (by omega) fun m hm => ?_
      have ii := hI i (by omega)
      have ij := hI j (by omega)
      rw [rd_set _ _ _ _ (by rw [List.length_set]; omega), rd_set _ _ _ _ (by omega)]
      by_cases m1 : m = j
      · rw [if_pos m1, if_pos (by omega), ii, if_neg (by omega), show l.length - 1 - m = i by omega]
      · rw [if_neg m1]
        by_cases m2 : m = i
        · rw [if_pos m2, if_pos (by omega), ij, if_neg (by omega), show l.length - 1 - m = j by omega]
        · rw [if_neg m2, hI m hm]
          by_cases m3 : m < i ∨ l.length - 1 - i < m
          · rw [if_pos m3, if_pos (by omega)]
          · rw [if_neg m3, if_neg (by omega)]
    · refine ⟨x, by rw [slices_Reverse_int_int.l0, if_neg c], hx, fun m hm => ?_⟩
      rw [hI m hm]
      split
      · rfl
      · rw [show l.length - 1 - m = m by omega]
theorem rev_eq (l : List Int) (hl : l.length ≤ 4611686018427387900) (k : Nat) (hk : l.length < k) : ∃ r, slices_Reverse_int_int.f k l = some r ∧ r.length = l.length ∧ ∀ m : Nat, m < l.length → rd r (m : Int) = rd l ((l.length - 1 - m : Nat) : Int) := by
  unfold slices_Reverse_int_int.f
  by_cases c : l.length = 0
  · obtain ⟨k, rfl⟩ : ∃ z, k = z + 1 := ⟨k - 1, by omega⟩
    refine ⟨l, ?_, rfl, fun m hm => by omega⟩
    rw [slices_Reverse_int_int.l0, wm _ (by omega), if_neg (by omega)]
  · have := rev_l0 l hl l.length l 0 k rfl (by omega) (by omega) hk (fun m hm => by rw [if_neg (by omega)])
    rw [wm _ (by omega)]
    simpa using this
theorem rd_zero (x : Int) (l : List Int) : rd (x :: l) 0 = x := rfl
theorem rd_succ (x : Int) (l : List Int) (m : Nat) : rd (x :: l) ((m + 1 : Nat) : Int) = rd l (m : Int) := by
  simp [rd, List.getD]
theorem list_ext_rd : ∀ (l m : List Int), l.length = m.length → (∀ j : Nat, j < l.length → rd l (j : Int) = rd m (j : Int)) → l = m
  | [], [], _, _ => rfl
  | [], _ :: _, h, _ => by simp at h
  | _ :: _, [], h, _ => by simp at h
  | x :: l, y :: m, h, hj => by
    have h0 := hj 0 (by simp)
    rw [show ((0 : Nat) : Int) = 0 from rfl, rd_zero, rd_zero] at h0
    rw [h0, list_ext_rd l m (by simpa using h) fun j hjl => by
      have := hj (j + 1) (by simp only [List.length_cons]; omega)
      rwa [rd_succ, rd_succ] at this]
theorem rev_list (l : List Int) (hl : l.length ≤ 4611686018427387900) (k : Nat) (hk : l.length < k) : slices_Reverse_int_int.f k l = some l.reverse := by
  obtain ⟨r, h1, h2, h3⟩ := rev_eq l hl k hk
  rw [h1]
  congr 1
  refine list_ext_rd _ _ (by rw [h2, List.length_reverse]) fun j hj => ?_
  rw [h3 j (by omega)]
  simp only [rd, List.getD_eq_getElem?_getD, Int.toNat_natCast]
  rw [List.getElem?_reverse (by omega)]
theorem cmp_eq (a b : Int) : cmp_Compare_int.f a b = some (if a < b then -1 else if b < a then 1 else 0) := by
  unfold cmp_Compare_int.f cmp_isNaN_int.f
  rw [Option.bind_some, Option.bind_some, bne_self_eq_false, bne_self_eq_false, if_neg Bool.false_ne_true, if_neg Bool.false_ne_true]
  by_cases h1 : a < b
  · rw [if_pos h1, if_pos h1]
  · rw [if_neg h1, if_neg h1]
    by_cases h2 : b < a
    · rw [if_pos h2, if_pos h2]
    · rw [if_neg h2, if_neg h2]
theorem compare_l0 (x y : List Int) (hx : x.length ≤ 4611686018427387900) (d : Nat) : ∀ (i k : Nat), i + d = x.length → d < k → i ≤ y.length → cmpL (x.take i) (y.take i) = 0 →
    slices_Compare_int_int.l0 k x y x (x.length : Int) (i : Int) = some (cmpL (x.drop i) (y.drop i)) := by
  induction d with
  | zero =>
    intro i k h hk hi _
    obtain ⟨k, rfl⟩ : ∃ z, k = z + 1 := ⟨k - 1, by omega⟩
    rw [slices_Compare_int_int.l0, if_neg (by omega), List.drop_eq_nil_of_le (show x.length ≤ i by omega)]
    by_cases c : x.length < y.length
    · rw [if_pos (by omega), dropK y i (by omega)]
      rfl
    · rw [if_neg (by omega), List.drop_eq_nil_of_le (by omega)]
      rfl
  | succ d ih =>
    intro i k h hk hi h0
    obtain ⟨k, rfl⟩ : ∃ z, k = z + 1 := ⟨k - 1, by omega⟩
    rw [slices_Compare_int_int.l0, if_pos (by omega), if_pos (by omega), if_pos (by omega), dropK x i (by omega)]
    by_cases c : i < y.length
    · rw [if_neg (by omega), if_pos (by omega), cmp_eq, Option.bind_some, dropK y i c, cmpL]
      by_cases h1 : rd x (i : Int) < rd y (i : Int)
      · rw [if_pos h1, if_neg (by decide), if_pos h1]
      · rw [if_neg h1, if_neg h1]
        by_cases h2 : rd y (i : Int) < rd x (i : Int)
        · rw [if_pos h2, if_neg (by decide), if_pos h2]
        · rw [if_neg h2, if_pos rfl, if_neg h2, w1 i (by omega)]
          refine ih (i + 1) k (by omega) (by omega) (by omega) ?_
          rw [takeK x i (by omega), takeK y i c, show rd x (i : Int) = rd y (i : Int) by omega]
          have : x.take i = y.take i := by
            have hl : (x.take i).length = (y.take i).length := by rw [List.length_take, List.length_take]; omega
            generalize x.take i = u at h0 hl ⊢
            generalize y.take i = v at h0 hl ⊢
            clear ih hx h hk hi c h1 h2
            induction u generalizing v with
            | nil => cases v with
              | nil => rfl
              | cons b v => simp at hl
            | cons a u ihu => cases v with
              | nil => simp at hl
              | cons b v =>
                rw [cmpL] at h0
                by_cases e1 : a < b
                · rw [if_pos e1] at h0; cases h0
                · rw [if_neg e1] at h0
                  by_cases e2 : b < a
                  · rw [if_pos e2] at h0; cases h0
                  · rw [if_neg e2] at h0
                    rw [show a = b by omega, ihu v h0 (by simpa using hl)]
          rw [this]
          exact cmpL_self _
    · have hn : y.drop i = [] := List.drop_eq_nil_of_le (by omega)
      rw [if_pos (by omega), hn]
      rfl
theorem compare_eq (x y : List Int) (hx : x.length ≤ 4611686018427387900) (k : Nat) (hk : x.length < k) : slices_Compare_int_int.f k x y = some (cmpL x y) := by
  have := compare_l0 x y hx x.length 0 k (by omega) hk (by omega) rfl
  simpa [slices_Compare_int_int.f] using this
section
variable {ns : List S43} (h : Tree ns)
include h
theorem self_in {i : Int} (h0 : 0 ≤ i) (h1 : i < ns.length) : i ∈ sub ns i := by rw [sub_eq h h0 h1]; simp
theorem sub_step : ∀ (D : Nat) (t : Int), 41 - q0x ns t ≤ D → 0 ≤ t → t < ns.length → ∀ p c, p ∈ sub ns t → c ∈ kidL ns p → c ∈ sub ns t
  | 0, t, hD, h0, h1, p, c, hp, hc => by
    have := (h.deep t h0 h1).1
    omega
  | D + 1, t, hD, h0, h1, p, c, hp, hc => by
    have hdt := (h.deep t h0 h1).1
    rw [sub_eq h h0 h1] at hp ⊢
    rcases List.mem_cons.1 hp with rfl | hp
    · obtain ⟨c0, c1, _⟩ := h.kid p c h0 h1 hc
      exact List.mem_cons_of_mem _ (List.mem_flatMap.2 ⟨c, hc, self_in h c0 c1⟩)
    · obtain ⟨u, hu, hp⟩ := List.mem_flatMap.1 hp
      obtain ⟨u0, u1, _⟩ := h.kid t u h0 h1 hu
      have := q17 h h0 h1 hu
      exact List.mem_cons_of_mem _ (List.mem_flatMap.2 ⟨u, hu, sub_step D u (by omega) u0 u1 p c hp hc⟩)
theorem sub_upw : ∀ (D : Nat) (t : Int), 41 - q0x ns t ≤ D → 0 ≤ t → t < ns.length → ∀ c, c ∈ sub ns t → c ≠ t → par ns c ∈ sub ns t ∧ 0 ≤ par ns c
  | 0, t, hD, h0, h1, c, hc, hne => by
    have := (h.deep t h0 h1).1
    omega
  | D + 1, t, hD, h0, h1, c, hc, hne => by
    have hdt := (h.deep t h0 h1).1
    rw [sub_eq h h0 h1] at hc ⊢
    rcases List.mem_cons.1 hc with rfl | hc
    · exact absurd rfl hne
    · obtain ⟨u, hu, hc⟩ := List.mem_flatMap.1 hc
      obtain ⟨u0, u1, up⟩ := h.kid t u h0 h1 hu
      have := q17 h h0 h1 hu
      by_cases e : c = u
      · subst e
        rw [up]
        exact ⟨List.mem_cons_self, h0⟩
      · have := sub_upw D u (by omega) u0 u1 c hc e
        exact ⟨List.mem_cons_of_mem _ (List.mem_flatMap.2 ⟨u, hu, this.1⟩), this.2⟩
theorem sub_par {t c : Int} (h0 : 0 ≤ t) (h1 : t < ns.length) (c0 : 0 ≤ c) (c1 : c < ns.length) (hne : c ≠ t) : c ∈ sub ns t ↔ 0 ≤ par ns c ∧ par ns c ∈ sub ns t := by
  constructor
  · intro hc
    have := sub_upw h _ t (Nat.le_refl _) h0 h1 c hc hne
    exact ⟨this.2, this.1⟩
  · rintro ⟨hp, hc⟩
    rcases h.up c c0 c1 with hr | ⟨_, _, hx⟩
    · omega
    · exact sub_step h _ t (Nat.le_refl _) h0 h1 _ _ hc hx
theorem under_l0s (q : Bool) {t : Int} (h0 : 0 ≤ t) (h1 : t < ns.length) : ∀ (d : Nat) (x : Int), q0x ns x = d → 0 ≤ x → x < ns.length → ∀ k, d + 1 < k → clerestoryref1_Under.l0 k x t ns q = some (decide (x ∈ sub ns t))
  | d, x, hd, x0, x1, k, hk => by
    obtain ⟨k, rfl⟩ : ∃ z, k = z + 1 := ⟨k - 1, by omega⟩
    rw [clerestoryref1_Under.l0]
    by_cases c0 : x = t
    · subst c0
      rw [if_pos rfl, decide_eq_true (self_in h x0 x1), beq_self_eq_true]
    · rw [if_neg c0, if_pos x0, if_pos x0, if_pos x1, decide_eq_decide.2 (sub_par h h0 h1 x0 x1 c0)]
      show clerestoryref1_Under.l0 k (par ns x) t ns q = _
      by_cases c : par ns x < 0
      · have hd0 := deep_root h c
        obtain ⟨k, rfl⟩ : ∃ z, k = z + 1 := ⟨k - 1, by omega⟩
        rw [clerestoryref1_Under.l0, if_neg (by omega), if_neg (by omega), decide_eq_false (by omega)]
        congr 1
        exact beq_eq_false_iff_ne.2 (by omega)
      · rcases h.up x x0 x1 with hr | ⟨p0, p1, hx⟩
        · omega
        have hu := deep_up h x0 x1 p0
        obtain ⟨d', rfl⟩ : ∃ d', d = d' + 1 := ⟨d - 1, by omega⟩
        have e : decide (0 ≤ par ns x ∧ par ns x ∈ sub ns t) = decide (par ns x ∈ sub ns t) := decide_eq_decide.2 ⟨fun e => e.2, fun e => ⟨p0, e⟩⟩
        rw [under_l0s q h0 h1 d' (par ns x) (by omega) p0 p1 k (by omega), e]
theorem under_sub (q : Bool) {t x : Int} (h0 : 0 ≤ t) (h1 : t < ns.length) (x0 : 0 ≤ x) (x1 : x < ns.length) (k : Nat) (hk : 50 < k) : clerestoryref1_Under.f k ns q x t = some (decide (x ∈ sub ns t)) := by
  have hd := (h.deep x x0 x1).1
  exact under_l0s h q h0 h1 _ x rfl x0 x1 k (by omega)
omit h in
theorem pathD_len : ∀ (d : Nat) (i : Int), (pathD ns d i).length = d
  | 0, _ => rfl
  | d + 1, i => by rw [pathD, List.length_append, pathD_len d]; rfl
theorem kids_few {i : Int} (h0 : 0 ≤ i) (h1 : i < ns.length) : (kidL ns i).length ≤ ns.length := few_of ns.length (kidL ns i) (h.once i h0 h1) fun x hx => ⟨(h.kid i x h0 h1 hx).1, (h.kid i x h0 h1 hx).2.1⟩
set_option maxRecDepth 10000 in
theorem path_l0s (q : Bool) : ∀ (d : Nat) (x : Int), q0x ns x = d → 0 ≤ x → x < ns.length → ∀ (o : List Int) (k : Nat), o.length + d ≤ 100 → d + 400 < k → span_ranger_path.l0 k o x ns q = some (if x ∈ sub ns 0 then pathU ns x ++ o.reverse else [])
  | d, x, hd, h0, h1, o, k, ho, hk => by
    obtain ⟨k, rfl⟩ : ∃ z, k = z + 1 := ⟨k - 1, by omega⟩
    have hz1 : (0 : Int) < ns.length := by have := h.some_; omega
    rw [span_ranger_path.l0]
    by_cases c : x > 0
    · rw [if_pos c, if_pos h0, if_pos h1]
      show (if par ns x < 0 then some [] else if 0 ≤ par ns x then (if par ns x < (ns.length : Int) then ((slices_Index_int_int.f k (kidL ns (par ns x)) x).bind fun t => if o.length < 17592186044416 then span_ranger_path.l0 k (o ++ [wrap64 (wrap64 (2 * t) + 1)]) (par ns x) ns q else none) else none) else none) = _
      have hs := sub_par h (t := 0) (by omega) hz1 h0 h1 (by omega)
      by_cases cp : par ns x < 0
      · rw [if_pos cp, if_neg (fun e => by have := (hs.1 e).1; omega)]
      · rcases h.up x h0 h1 with hr | ⟨p0, p1, hx⟩
        · omega
        have hl := kids_few h p0 p1
        have hm := h.many
        have hi := idx_lt hx
        rw [if_neg cp, if_pos p0, if_pos p1, index_eq _ _ (by omega) k (by omega), Option.bind_some, idxI_mem hx, if_pos (by omega)]
        have hu := deep_up h h0 h1 p0
        obtain ⟨d', rfl⟩ : ∃ d', d = d' + 1 := ⟨d - 1, by omega⟩
        rw [path_l0s q d' (par ns x) (by omega) p0 p1 _ k (by rw [List.length_append]; simp only [List.length_cons, List.length_nil]; omega) (by omega)]
        rw [show wrap64 (wrap64 (2 * (idx (kidL ns (par ns x)) x : Int)) + 1) = 2 * (idx (kidL ns (par ns x)) x : Int) + 1 by
          rw [show wrap64 (2 * (idx (kidL ns (par ns x)) x : Int)) = 2 * (idx (kidL ns (par ns x)) x : Int) by unfold wrap64; omega]
          unfold wrap64
          omega]
        congr 1
        by_cases cs : par ns x ∈ sub ns 0
        · rw [if_pos cs, if_pos (hs.2 ⟨p0, cs⟩), pathU_kid h p0 p1 hx]
          simp
        · rw [if_neg cs, if_neg (fun e => cs (hs.1 e).2)]
    · obtain rfl : x = 0 := by omega
      have hd0 := deep_root h (i := 0) (by rw [h.root]; decide)
      rw [if_neg c, rev_list o (by omega) k (by omega), Option.bind_some, if_pos (self_in h (by omega) hz1)]
      unfold pathU
      rw [hd0]
      rfl
theorem path_eqs (q : Bool) {x a : Int} (h0 : 0 ≤ x) (h1 : x < ns.length) (ha : 0 ≤ a ∧ a ≤ 100000) (k : Nat) (hk : 500 < k) : span_ranger_path.f k ns q x a = some (if x ∈ sub ns 0 then wayP ns (x, a) else []) := by
  have hd := (h.deep x h0 h1).1
  unfold span_ranger_path.f
  rw [path_l0s h q _ x rfl h0 h1 _ k (by simp only [List.length_cons, List.length_nil]; omega) (by omega), show wrap64 (2 * a) = 2 * a by unfold wrap64; omega]
  rfl
omit h in
theorem wayP_len {x a : Int} : (wayP ns (x, a)).length = q0x ns x + 1 := by
  unfold wayP pathU
  rw [List.length_append, pathD_len]
  rfl
theorem order_eqs (q : Bool) {x a y b : Int} (h0 : 0 ≤ x) (h1 : x < ns.length) (ha : 0 ≤ a ∧ a ≤ 100000) (hx : x ∈ sub ns 0) (y0 : 0 ≤ y) (y1 : y < ns.length) (hb : 0 ≤ b ∧ b ≤ 100000) (hy : y ∈ sub ns 0) (k : Nat) (hk : 500 < k) : span_ranger_order.f k ns q x a y b = some (cmpL (wayP ns (x, a)) (wayP ns (y, b))) := by
  have hd := (h.deep x h0 h1).1
  unfold span_ranger_order.f
  by_cases c : x = y
  · subst c
    rw [if_pos rfl, cmp_eq, Option.bind_some]
    unfold wayP
    rw [cmpL_app, cmpL]
    show some (if a < b then -1 else if b < a then 1 else 0) = some (if 2 * a < 2 * b then -1 else if 2 * b < 2 * a then 1 else 0)
    congr 1
    by_cases e1 : a < b
    · rw [if_pos e1, if_pos (by omega)]
    · rw [if_neg e1, if_neg (show ¬ 2 * a < 2 * b by omega)]
      by_cases e2 : b < a
      · rw [if_pos e2, if_pos (by omega)]
      · rw [if_neg e2, if_neg (by omega)]
  · have hw := wayP_len (ns := ns) (x := x) (a := a)
    rw [if_neg c, path_eqs h q h0 h1 ha k hk, Option.bind_some, path_eqs h q y0 y1 hb k hk, Option.bind_some, if_pos hx, if_pos hy, compare_eq _ _ (by omega) k (by omega), Option.bind_some]
end
end Go.Proofs.YthjnallbbhnndaaDoor.Dm
