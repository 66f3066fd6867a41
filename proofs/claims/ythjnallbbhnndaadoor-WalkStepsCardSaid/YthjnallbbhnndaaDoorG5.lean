/- Written by this session's program (wip/xp) out of the translation as Lean prints it: for each Go function a Lean function and the proof that the code answers just so, on the conditions named in each statement. -/
import Derived.Test.YthjnallbbhnndaaDoorG4
import Derived.Test.YthjnallbbhnndaaDoorRows
import Derived.Test.YthjnallbbhnndaaDoorChecked
import Derived.Lib.LaidIn
import Derived.Lib.LaidU8T
import Derived.Deep.DeepHandedRow
import Derived.Deep.DeepWitnessRowRef
namespace Go.Proofs.YthjnallbbhnndaaDoor.XWk
open Go.Proofs.YthjnallbbhnndaaDoor.Short Go.RowKit Go.Proofs.YthjnallbbhnndaaDoorW.PrintWords Go.Proofs.YthjnallbbhnndaaDoorW.PrintLast Go.Proofs.YthjnallbbhnndaaDoorW.PrintMore
attribute [local go_sem] q27 q25 q2l q2k q1w q1v q26 q24   -- for this text's walks alone
set_option linter.unusedVariables false
set_option linter.unusedSimpArgs false
theorem ne_own {W : World} {w0 : World} {g : Nat} {l0 : List S43} {q : Bool} {ad : Addr} {n c B : Nat} {xs : List Int} {ok : Nat → Prop} (hI : q0d w0 W g l0 q) (ho : (Kd.int .i64).R 3 W B ok (.slice (some ad) n c) xs) : ad.block ≠ g := by
 have := q0d.own_ne hI ho (by decide)
 intro e
 exact this (by simp [Value.ownBlock, e])
def cpre : List Int → List Int → Nat
 | x :: p, y :: q => if x = y then cpre p q + 1 else 0
 | _, _ => 0
theorem cpre_le : ∀ p q : List Int, cpre p q ≤ p.length ∧ cpre p q ≤ q.length
 | [], _ => by simp [cpre]
 | _ :: _, [] => by simp [cpre]
 | x :: p, y :: q => by
  have := cpre_le p q
  unfold cpre
  split <;> simp <;> omega
def q1m.f (k : Nat) (l0 : List S43) (a1 : Bool) (a b : Int) : Option (Int × Int) :=
 (q0g.f k l0 a1 [a, b]).bind fun e => if e = 0 then (q0s.f k l0 a1 a).bind fun p => (q0s.f k l0 a1 b).bind fun q =>
  if p.2 = a1 ∧ q.2 = a1 ∧ 1 ≤ cpre p.1 q.1 ∧ p.1.length ≤ 4611686018427387904 then some (rd p.1 ((cpre p.1 q.1 - 1 : Nat) : Int), 0) else none else some (0, e)
set_option maxHeartbeats 8000000 in
set_option maxRecDepth 100000 in
theorem q1m.calls (k : Nat) (A0 : Option Addr) (c0 : Nat) (l0 : List S43) (a1 : Bool) (a b : Int) (r1 : Int) (r2 : Int) (w : World) (hr0 : Kd.C k43 w A0 l0.length l0) (hc0 : l0.length ≤ c0) (h : q1m.f k l0 a1 a b = some (r1, r2)) :
 Calls Tryd.prog 23 #[.agg #[.slice A0 l0.length c0, .bool a1], .int .i64 a, .int .i64 b] w fun e w' => e = .returned (.tuple #[.int .i64 r1, .int .i64 r2]) ∧ Below w.heap.size w w' := by
 have hu24 := Tryd.underlying24
 unfold q1m.f at h
 obtain ⟨ly, hly⟩ : ∃ ly : List Int, ly = [a, b] := ⟨_, rfl⟩
 rw [← hly] at h
 have HLL : Aside0 (ly.length ≤ 4611686018427387904) := ⟨by rw [hly]; simp⟩
 have HLY := aS hly
 clear hly
 obtain ⟨e0, he0, h⟩ := Option.bind_eq_some_iff.1 h
 have HE := aS he0
 have HR := aS hr0
 have HC := aS hc0
 have HB := aS (Below.refl w.heap.size w)
 clear he0 hr0 hc0
 by_cases z0 : e0 = 0
 ·subst z0
  rw [if_pos rfl] at h
  obtain ⟨⟨p, p2⟩, hp, h⟩ := Option.bind_eq_some_iff.1 h
  obtain ⟨⟨q, q2⟩, hq, h⟩ := Option.bind_eq_some_iff.1 h
  by_cases hc : p2 = a1 ∧ q2 = a1 ∧ 1 ≤ cpre p q ∧ p.length ≤ 4611686018427387904
  ·have h2 : some (rd p ((cpre p q - 1 : Nat) : Int), (0 : Int)) = some (r1, r2) := (if_pos hc).symm.trans h
   clear h
   obtain ⟨e1, e2, hc1, hc2⟩ := hc
   rw [e1] at hp
   rw [e2] at hq
   have HP := aS hp
   have HQ := aS hq
   clear hp hq e1 e2
   simp only [Option.some.injEq, Prod.mk.injEq] at h2
   obtain ⟨rfl, rfl⟩ := h2
   have HC1 := aS hc1
   have HC2 := aS hc2
   clear hc1 hc2
   go_enter Tryd.func23, Tryd.ntmps23
   go_wp2_with (first | ((with_reducible refine q15 (N := 3) rfl ?_); refine q0y ?hg (N := 3) ?hd (cs := #[.slice A0 l0.length c0, .bool a1]) (t := 24) ?hr ?_; (case hd => rfl); (case hg => rfl); (case hr => first | (go_simp; done) | (go_simp; rfl)); intro gb hg wb hbox hb; have n0_ := aS (q09 (by repeat (first | exact HB.out | apply bA | apply bN | apply bD)) hb); have BK := aS hbox; have hcz0 : wb.cell? ⟨gb, 0, none⟩ = some (.slice A0 l0.length c0) := (q02 BK.out 0).trans rfl; have hcz1 : wb.cell? ⟨gb, 1, none⟩ = some (.bool a1) := (q02 BK.out 1).trans rfl; clear HB; have HB := n0_; clear n0_ hg hbox hb) | ((with_reducible refine q15 (N := 17) rfl ?_); refine Kd.R_lit (Kd.int .i64) _ 3 ?hg (N := 17) ?hd (xs := ([a, b] : List Int)) (inner := [.int .i64 a, .int .i64 b]) (ok := fun _ => True) (okp := fun _ => True) ?hr ?hp (fun _ hk => hk) trivial (Below.refl _ _) (Nat.le_refl _) (by simp) ?_; (case hd => rfl); (case hg => rfl); (case hr => first | (go_simp; done) | (go_simp; rfl)); (case hp => exact (Reps.one (show Kd.M (Kd.int .i64) _ _ _ a [.int .i64 a] from rfl) (Reps.one (show Kd.M (Kd.int .i64) _ _ _ b [.int .i64 b] from rfl) (Reps.none _ _)))); intro vl wl hol hb hg_ hnew_; clear hg_ hnew_; (first | rw [← HLY.out] at hol | (simp only [Int.reduceToNat] at hol; rw [← HLY.out] at hol)); obtain ⟨Al, cl, el⟩ := Kd.R_slice hol; subst el; have n0_ := aS (q09 (by repeat (first | exact HB.out | apply bA | apply bN | apply bD)) hb); clear HB; have HB := n0_; clear n0_; have HRl := aS (Kd.R_reads' hol).2.2; have HCl := aS (Kd.R_reads' hol).2.1; clear hol; have BKn := aS (q0g.blk BK.out hb); clear BK; have BK := BKn; clear BKn; clear hcz0 hcz1; have hcz0 : wl.cell? ⟨gb, 0, none⟩ = some (.slice A0 l0.length c0) := (q02 BK.out 0).trans rfl; have hcz1 : wl.cell? ⟨gb, 1, none⟩ = some (.bool a1) := (q02 BK.out 1).trans rfl; clear hb) | (go_at_call 70; (with_reducible refine (q0g.calls0 k A0 c0 l0 a1 Al cl ly _ (Kd.C_below HR.out (by repeat (first | exact HB.out | apply bA | apply bN | apply bD))) HC.out (by repeat (first | (with_reducible exact HRl.out) | (with_reducible refine Kd.C_drewN ?_ _) | (with_reducible refine Kd.C_drew ?_) | (with_reducible refine Kd.C_alloc ?_ _))) HCl.out HLL.out HE.out).mono ?_); rintro e w2 ⟨hb, g2, rfl, hI⟩; have n0_ := aS (q09 (by repeat (first | exact HB.out | apply bA | apply bN | apply bD)) hb); obtain ⟨w0g2, hI, hIB, hIW⟩ : ∃ w0, q0d w0 w2 g2 l0 a1 ∧ Below w0.heap.size w0 w2 ∧ Below w.heap.size w w0 := ⟨_, hI, hb, (by repeat (first | exact HB.out | apply bA | apply bN | apply bD))⟩; clear HB; have HB := n0_; clear n0_; have HI := aS hI; have HIB := aS hIB; have HIW := aS hIW; clear hI hIB hIW; have BKn := aS (q0g.blk BK.out hb); clear BK; have BK := BKn; clear BKn; clear hcz0 hcz1; have hcz0 : w2.cell? ⟨gb, 0, none⟩ = some (.slice A0 l0.length c0) := (q02 BK.out 0).trans rfl; have hcz1 : w2.cell? ⟨gb, 1, none⟩ = some (.bool a1) := (q02 BK.out 1).trans rfl; clear hb) | (go_at_call 76; have h_ := HKP.out; clear h_; (with_reducible refine (q0s.calls k g2 l0 a1 b q a1 w0g2 _ (by repeat (first | (with_reducible exact HI.out) | (with_reducible apply q0d.alloc) | (with_reducible apply q0d.drewN) | (with_reducible apply q0d.drew))) (by repeat (first | exact HIB.out | apply bA | apply bN | apply bD)) HQ.out).mono ?_); rintro e wq ⟨vq, rfl, ho, hI9, hb9, hk9⟩; obtain ⟨Aq, cq, eo⟩ := Kd.R_slice ho; subst eo; have HNQ : Aside0 (∀ ad, Aq = some ad → ad.block ≠ g2) := ⟨fun ad e_ => by subst e_; exact ne_own hI9 ho⟩; have HCQ := aS (Kd.R_reads' ho).2.2; have hkp := (show q0u wp _ g2 none from (by repeat (first | exact HKP.out | apply q0z | apply q17 | apply q11))).trans hk9 (.inl rfl); clear HKP; have HKP := aS hkp; clear HB HI HIB ho hk9 hkp; have HI := aS hI9; have HIB := aS hb9; have HB := aS (q09 HIW.out hb9); clear hI9 hb9) | (go_at_call 76; (with_reducible refine (q0s.calls k g2 l0 a1 a p a1 w0g2 _ (by repeat (first | (with_reducible exact HI.out) | (with_reducible apply q0d.alloc) | (with_reducible apply q0d.drewN) | (with_reducible apply q0d.drew))) (by repeat (first | exact HIB.out | apply bA | apply bN | apply bD)) HP.out).mono ?_); rintro e wp ⟨vp, rfl, ho, hI9, hb9, hk9⟩; obtain ⟨Ap, cp, eo⟩ := Kd.R_slice ho; subst eo; have HNP : Aside0 (∀ ad, Ap = some ad → ad.block ≠ g2) := ⟨fun ad e_ => by subst e_; exact ne_own hI9 ho⟩; have HCP := aS (Kd.R_reads' ho).2.2; have HKP := aS (q0u.refl wp g2 none); clear HB HI HIB ho hk9; have HI := aS hI9; have HIB := aS hb9; have HB := aS (q09 HIW.out hb9); clear hI9 hb9))
   go_loopw [12] (fun v W => ∃ i : Nat, v = .int .i64 (i : Int) ∧ Aside0 (i + cpre (p.drop i) (q.drop i) = cpre p q) ∧ Aside0 (q0u wp W g2 none) ∧ Aside0 (q0u wq W g2 none) ∧ Aside0 (Below w.heap.size w W)) (fun v _ => q0g.left p v)
   case atStart => exact ⟨0, rfl, ⟨by simp⟩, ⟨by repeat (first | exact HKP.out | apply q0z | apply q17 | apply q11)⟩, ⟨by repeat (first | exact q0u.refl _ _ _ | apply q0z | apply q17 | apply q11)⟩, ⟨(by repeat (first | exact HB.out | apply bA | apply bN | apply bD))⟩⟩
   case round =>
    clear HB
    obtain ⟨i, rfl, HI2, HK1, HK2, HB⟩ := hrel
    have hle := cpre_le p q
    have hi := HI2.out
    by_cases ci : i < p.length
    ·have cib : decide ((i : Int) < (p.length : Int)) = true := decide_eq_true (by omega)
     have cib2 : decide (i < p.length) = true := decide_eq_true ci
     by_cases cj : i < q.length
     ·have cjb : decide ((i : Int) < (q.length : Int)) = true := decide_eq_true (by omega)
      have cjb2 : decide (i < q.length) = true := decide_eq_true cj
      have p1 : 0 ≤ (i : Int) := Int.natCast_nonneg _
      have q1 : (i : Int) < (p.length : Int) := by omega
      have q1' : (i : Int) < (q.length : Int) := by omega
      obtain ⟨ad1, e1, hx⟩ := Kd.at_int HCP.out (i : Int) p1 q1
      obtain ⟨ad2, e2, hy⟩ := Kd.at_int HCQ.out (i : Int) p1 q1'
      subst e1 e2
      replace hx := keep_cell HK1.out hx (by rw [q1l]; exact HNP.out _ rfl)
      replace hy := keep_cell HK2.out hy (by rw [q1l]; exact HNQ.out _ rfl)
      rw [show ((i : Int)).toNat = i from rfl] at hx hy
      replace p1 := eq_true p1
      replace q1 := eq_true q1
      replace q1' := eq_true q1'
      rw [q0g.dropL p i ci, q0g.dropL q i cj, cpre] at hi
      by_cases ce : rd p (i : Int) = rd q (i : Int)
      ·rw [if_pos ce] at hi
       have ceb : (rd p (i : Int) == rd q (i : Int)) = true := beq_iff_eq.mpr ce
       have hw : wrap64 ((i : Int) + 1) = ((i + 1 : Nat) : Int) := by have := HC2.out; unfold wrap64; omega
       have HI3 : Aside0 (i + 1 + cpre (p.drop (i + 1)) (q.drop (i + 1)) = cpre p q) := ⟨by omega⟩
       have CI := aS ci
       clear hi ci cj ce hle HI2
       go_wp2
       repeat (go_quiet (fail); try go_wp2)
       go_roundw
       case rel => exact ⟨i + 1, by first | rfl | simp [hw], HI3, ⟨by repeat (first | exact HK1.out | apply q0z | apply q17 | apply q11)⟩, ⟨by repeat (first | exact HK2.out | apply q0z | apply q17 | apply q11)⟩, ⟨(by repeat (first | exact HB.out | apply bA | apply bN | apply bD))⟩⟩
       case measure => have := CI.out; simp [q0g.left, hw]; omega
      ·rw [if_neg ce] at hi
       have ceb : (rd p (i : Int) == rd q (i : Int)) = false := beq_eq_false_iff_ne.mpr ce
       have hi0 : i = cpre p q := by omega
       have hc1 := HC1.out
       obtain ⟨m, hm⟩ : ∃ m : Nat, cpre p q = m + 1 := ⟨cpre p q - 1, by omega⟩
       have hml : m < p.length := by omega
       have p3 : 0 ≤ (m : Int) := Int.natCast_nonneg _
       have q3 : (m : Int) < (p.length : Int) := by omega
       obtain ⟨ad3, e3, hz⟩ := Kd.at_int HCP.out (m : Int) p3 q3
       first | subst e3 | (injection e3 with e3; subst e3)
       replace hz := keep_cell HK1.out hz (by rw [q1l]; exact HNP.out _ rfl)
       rw [show ((m : Int)).toNat = m from rfl] at hz
       have hw3 : wrap64 ((i : Int) - 1) = (m : Int) := by have := HC2.out; unfold wrap64; omega
       replace p3 := eq_true p3
       replace q3 := eq_true q3
       have HM : Aside0 (((cpre p q - 1 : Nat) : Int) = (m : Int)) := ⟨by omega⟩
       clear hi hle ci cj ce HI2 hc1 hm hml hi0
       go_wp2
       repeat (go_quiet (fail); try go_wp2)
       go_ret2
       exact ⟨(by rw [HM.out]; rfl), (by repeat (first | exact HB.out | apply bA | apply bN | apply bD))⟩
     ·have cjb : decide ((i : Int) < (q.length : Int)) = false := decide_eq_false (by omega)
      have cjb2 : decide (i < q.length) = false := decide_eq_false cj
      have hi0 : i = cpre p q := by omega
      have ce : True := trivial
      have hc1 := HC1.out
      obtain ⟨m, hm⟩ : ∃ m : Nat, cpre p q = m + 1 := ⟨cpre p q - 1, by omega⟩
      have hml : m < p.length := by omega
      have p3 : 0 ≤ (m : Int) := Int.natCast_nonneg _
      have q3 : (m : Int) < (p.length : Int) := by omega
      obtain ⟨ad3, e3, hz⟩ := Kd.at_int HCP.out (m : Int) p3 q3
      first | subst e3 | (injection e3 with e3; subst e3)
      replace hz := keep_cell HK1.out hz (by rw [q1l]; exact HNP.out _ rfl)
      rw [show ((m : Int)).toNat = m from rfl] at hz
      have hw3 : wrap64 ((i : Int) - 1) = (m : Int) := by have := HC2.out; unfold wrap64; omega
      replace p3 := eq_true p3
      replace q3 := eq_true q3
      have HM : Aside0 (((cpre p q - 1 : Nat) : Int) = (m : Int)) := ⟨by omega⟩
      clear hi hle ci cj ce HI2 hc1 hm hml hi0
      go_wp2
      repeat (go_quiet (fail); try go_wp2)
      go_ret2
      exact ⟨(by rw [HM.out]; rfl), (by repeat (first | exact HB.out | apply bA | apply bN | apply bD))⟩
    ·have cib : decide ((i : Int) < (p.length : Int)) = false := decide_eq_false (by omega)
     have cib2 : decide (i < p.length) = false := decide_eq_false ci
     have hi0 : i = cpre p q := by omega
     have ce : True := trivial
     have cj : True := trivial
     have hc1 := HC1.out
     obtain ⟨m, hm⟩ : ∃ m : Nat, cpre p q = m + 1 := ⟨cpre p q - 1, by omega⟩
     have hml : m < p.length := by omega
     have p3 : 0 ≤ (m : Int) := Int.natCast_nonneg _
     have q3 : (m : Int) < (p.length : Int) := by omega
     obtain ⟨ad3, e3, hz⟩ := Kd.at_int HCP.out (m : Int) p3 q3
     first | subst e3 | (injection e3 with e3; subst e3)
     replace hz := keep_cell HK1.out hz (by rw [q1l]; exact HNP.out _ rfl)
     rw [show ((m : Int)).toNat = m from rfl] at hz
     have hw3 : wrap64 ((i : Int) - 1) = (m : Int) := by have := HC2.out; unfold wrap64; omega
     replace p3 := eq_true p3
     replace q3 := eq_true q3
     have HM : Aside0 (((cpre p q - 1 : Nat) : Int) = (m : Int)) := ⟨by omega⟩
     clear hi hle ci cj ce HI2 hc1 hm hml hi0
     go_wp2
     repeat (go_quiet (fail); try go_wp2)
     go_ret2
     exact ⟨(by rw [HM.out]; rfl), (by repeat (first | exact HB.out | apply bA | apply bN | apply bD))⟩
  ·have h2 : (none : Option (Int × Int)) = some (r1, r2) := (if_neg hc).symm.trans h
   exact absurd h2 (by simp)
 ·rw [if_neg z0] at h
  simp only [Option.some.injEq, Prod.mk.injEq] at h
  obtain ⟨rfl, rfl⟩ := h
  have z0b : (e0 == 0) = false := beq_eq_false_iff_ne.mpr z0
  have z0c : (e0 != 0) = true := bne_iff_ne.mpr z0
  have Z0 := aS z0
  clear z0
  go_enter Tryd.func23, Tryd.ntmps23
  go_wp2_with (first | ((with_reducible refine q15 (N := 3) rfl ?_); refine q0y ?hg (N := 3) ?hd (cs := #[.slice A0 l0.length c0, .bool a1]) (t := 24) ?hr ?_; (case hd => rfl); (case hg => rfl); (case hr => first | (go_simp; done) | (go_simp; rfl)); intro gb hg wb hbox hb; have n0_ := aS (q09 (by repeat (first | exact HB.out | apply bA | apply bN | apply bD)) hb); have BK := aS hbox; have hcz0 : wb.cell? ⟨gb, 0, none⟩ = some (.slice A0 l0.length c0) := (q02 BK.out 0).trans rfl; have hcz1 : wb.cell? ⟨gb, 1, none⟩ = some (.bool a1) := (q02 BK.out 1).trans rfl; clear HB; have HB := n0_; clear n0_ hg hbox hb) | ((with_reducible refine q15 (N := 17) rfl ?_); refine Kd.R_lit (Kd.int .i64) _ 3 ?hg (N := 17) ?hd (xs := ([a, b] : List Int)) (inner := [.int .i64 a, .int .i64 b]) (ok := fun _ => True) (okp := fun _ => True) ?hr ?hp (fun _ hk => hk) trivial (Below.refl _ _) (Nat.le_refl _) (by simp) ?_; (case hd => rfl); (case hg => rfl); (case hr => first | (go_simp; done) | (go_simp; rfl)); (case hp => exact (Reps.one (show Kd.M (Kd.int .i64) _ _ _ a [.int .i64 a] from rfl) (Reps.one (show Kd.M (Kd.int .i64) _ _ _ b [.int .i64 b] from rfl) (Reps.none _ _)))); intro vl wl hol hb hg_ hnew_; clear hg_ hnew_; (first | rw [← HLY.out] at hol | (simp only [Int.reduceToNat] at hol; rw [← HLY.out] at hol)); obtain ⟨Al, cl, el⟩ := Kd.R_slice hol; subst el; have n0_ := aS (q09 (by repeat (first | exact HB.out | apply bA | apply bN | apply bD)) hb); clear HB; have HB := n0_; clear n0_; have HRl := aS (Kd.R_reads' hol).2.2; have HCl := aS (Kd.R_reads' hol).2.1; clear hol; have BKn := aS (q0g.blk BK.out hb); clear BK; have BK := BKn; clear BKn; clear hcz0 hcz1; have hcz0 : wl.cell? ⟨gb, 0, none⟩ = some (.slice A0 l0.length c0) := (q02 BK.out 0).trans rfl; have hcz1 : wl.cell? ⟨gb, 1, none⟩ = some (.bool a1) := (q02 BK.out 1).trans rfl; clear hb) | (go_at_call 70; (with_reducible refine (q0g.callsE k A0 c0 l0 a1 Al cl ly e0 Z0.out _ (Kd.C_below HR.out (by repeat (first | exact HB.out | apply bA | apply bN | apply bD))) HC.out (by repeat (first | (with_reducible exact HRl.out) | (with_reducible refine Kd.C_drewN ?_ _) | (with_reducible refine Kd.C_drew ?_) | (with_reducible refine Kd.C_alloc ?_ _))) HCl.out HLL.out HE.out).mono ?_); rintro e w2 ⟨hb, rfl⟩; have n0_ := aS (q09 (by repeat (first | exact HB.out | apply bA | apply bN | apply bD)) hb); clear HB; have HB := n0_; clear n0_; have BKn := aS (q0g.blk BK.out hb); clear BK; have BK := BKn; clear BKn; clear hcz0 hcz1; have hcz0 : w2.cell? ⟨gb, 0, none⟩ = some (.slice A0 l0.length c0) := (q02 BK.out 0).trans rfl; have hcz1 : w2.cell? ⟨gb, 1, none⟩ = some (.bool a1) := (q02 BK.out 1).trans rfl; clear hb))
  go_ret2
  exact ⟨rfl, (by repeat (first | exact HB.out | apply bA | apply bN | apply bD))⟩
theorem q1m.mono (l0 : List S43) (a1 : Bool) (a b : Int) (k : Nat) : LeO (q1m.f k l0 a1 a b) (q1m.f (k + 1) l0 a1 a b) :=
 LeO.bind (q0g.mono l0 a1 [a, b] k) fun _ => LeO.ite (LeO.bind (q0s.mono l0 a1 a k) fun _ => LeO.bind (q0s.mono l0 a1 b k) fun _ => LeO.refl _) (LeO.refl _)
mutual
def q0c.l0 : Nat → Int → List Int → Int → List (S43) → Bool → Option (List Int)
 | 0, _, _, _, _, _ => none
 | k + 1, x1, x5, x6, x242000, x242001 => if 0 ≤ x1 then (if x1 < (x242000.length : Int) then (if x6 < (((q05 x242000 x1).f5).length : Int) then (if 0 ≤ x6 then ((q0c.f k x242000 x242001 (rd ((q05 x242000 x1).f5) x6)).bind fun t248 => (if x5.length + t248.length < 17592186044416 then (q0c.l0 k x1 (x5 ++ t248) (wrap64 (x6 + 1)) x242000 x242001) else (none))) else (none)) else (some x5)) else (none)) else (none)
def q0c.f : Nat → List (S43) → Bool → Int → Option (List Int)
 | 0, _, _, _ => none
 | k + 1, l0_0, a0_1, a1 => q0c.l0 k a1 (([a1] : List Int)) 0 l0_0 a0_1
end
theorem q0c.mono_l : ∀ k, (∀ y0 y1 y2, LeO (q0c.f k y0 y1 y2) (q0c.f (k + 1) y0 y1 y2)) ∧ (∀ y0 y1 y2 y3 y4, LeO (q0c.l0 k y0 y1 y2 y3 y4) (q0c.l0 (k + 1) y0 y1 y2 y3 y4))
 | 0 => ⟨fun _ _ _ r h => by simp [q0c.f] at h, fun _ _ _ _ _ r h => by simp [q0c.l0] at h⟩
 | k + 1 => by
  obtain ⟨ih0, ih1⟩ := q0c.mono_l k
  refine ⟨?_, ?_⟩
  ·intro y0 y1 y2
   unfold q0c.f
   repeat' first
   | (with_reducible exact ih0 _ _ _)
   | (with_reducible exact ih1 _ _ _ _ _)
   | (with_reducible exact LeO.refl _)
   | (with_reducible exact LeO.none _)
   | (with_reducible refine LeO.ite ?_ ?_)
   | (with_reducible refine LeO.bind ?_ (fun _ => ?_))
   | exact ih0 _ _ _
   | exact ih1 _ _ _ _ _
   | exact LeO.none _
   | refine LeO.ite ?_ ?_
   | refine LeO.bind ?_ (fun _ => ?_)
  ·intro y0 y1 y2 y3 y4
   unfold q0c.l0
   repeat' first
   | (with_reducible exact ih0 _ _ _)
   | (with_reducible exact ih1 _ _ _ _ _)
   | (with_reducible exact LeO.refl _)
   | (with_reducible exact LeO.none _)
   | (with_reducible refine LeO.ite ?_ ?_)
   | (with_reducible refine LeO.bind ?_ (fun _ => ?_))
   | exact ih0 _ _ _
   | exact ih1 _ _ _ _ _
   | exact LeO.none _
   | refine LeO.ite ?_ ?_
   | refine LeO.bind ?_ (fun _ => ?_)
theorem q0c.mono : ∀ a0 a1 a2 k, LeO (q0c.f k a0 a1 a2) (q0c.f (k + 1) a0 a1 a2) := by
 intro a0 a1 a2 k
 obtain ⟨ih0, ih1⟩ := q0c.mono_l k
 exact ih0 a0 a1 a2
def q0c.T5 : Bool × List (List Nat × List Nat) := (true, [([], []), ([], []), ([], []), ([2], [2]), ([], []), ([3, 4], [3, 4]), ([5], [5]), ([6], [6]), ([], []), ([7, 8], [7, 8]), ([9], [9]), ([1, 10], [1, 10]), ([0, 11, 11], [0, 11]), ([12, 12, 0, 1, 2, 3, 4, 5, 6, 7, 8, 9, 10, 11, 12], [0, 12])])
def q0c.B5 : List Nat := [0, 0, 0, 4, 0, 28, 60, 124, 0, 508, 1020, 2046, 4095, 8191]
theorem q0c.tab5 : rtab .any (opsOf Tryd.f25 5) = q0c.T5 := by kernel_rfl
theorem q0c.bits5 : waitsOk q0c.T5.2 q0c.B5 = true := by kernel_rfl
set_option maxHeartbeats 8000000 in
set_option maxRecDepth 100000 in
theorem q0c.calls (k : Nat) : ∀ (A0_0 : Option Addr) (c0_0 : Nat) (l0_0 : List (S43)) (a0_1 : Bool) (a1 : Int) (r : List Int) (w : World) (hr0_0 : Kd.C k43 w A0_0 l0_0.length l0_0) (hc0_0 : l0_0.length ≤ c0_0) (h : q0c.f k l0_0 a0_1 a1 = some r),
 Calls Tryd.prog 25 #[.agg #[.slice A0_0 l0_0.length c0_0, .bool a0_1], .int .i64 a1] w fun e w' => ∃ v0_ : Value, e = .returned (v0_) ∧ Kd.R (Kd.int .i64) 3 w' w.heap.size (fun _ => True) v0_ r ∧ Below w.heap.size w w' := by
 induction k using Nat.strongRecOn with
 | _ k ih =>
 intro A0_0 c0_0 l0_0 a0_1 a1 r w hr0_0 hc0_0 h
 cases k with
 | zero => exact absurd h (by simp [q0c.f])
 | succ k =>
 simp only [q0c.f] at h
 have hu24 := Tryd.underlying24
 have HR0_0 := aS hr0_0
 have HC0_0 := aS hc0_0
 clear hr0_0 hc0_0
 have HB := aS (Below.refl w.heap.size w)
 have H : (q0c.l0 k a1 (([a1] : List Int)) 0 l0_0 a0_1) = some r := h
 clear h
 obtain ⟨y242, hy242⟩ : ∃ y_ : List Int, y_ = (([a1] : List Int)) := ⟨_, rfl⟩
 replace H : (q0c.l0 k a1 y242 0 l0_0 a0_1) = some r := by first | (rw [hy242]; with_reducible exact H) | (have H2_ := (Option.bind_some _ _).symm.trans H; rw [hy242]; with_reducible exact H2_) | (have H2_ := (Option.bind_some _ _).symm.trans H; with_reducible exact H2_) | with_reducible exact H | (rw [hy242]; exact H) | exact H
 have Ny242 := aS hy242
 clear hy242
 have H' := aS H
 clear H
 go_enter Tryd.func25, Tryd.ntmps25
 go_wp2_with (first | ((with_reducible refine q15 (N := 2) rfl ?_); refine q0y ?hg (N := 2) ?hd (cs := #[.slice A0_0 l0_0.length c0_0, .bool a0_1]) (t := 24) ?hr ?_; (case hd => rfl); (case hg => rfl); (case hr => first | (go_simp; done) | (go_simp; rfl)); intro gb241 hg w3 hbox hb; have n0_ := aS (q09 (by repeat (first | (with_reducible first | exact HB.out | apply bA | apply bN | apply bD) | exact HB.out)) hb); have n1_ := aS (hbox); have n2_ := aS ((by rw [hg]; exact (q0k (by repeat (first | (with_reducible first | exact HB.out | apply bA | apply bN | apply bD) | exact HB.out))) : w.heap.size ≤ gb241)); have n3_ := aS ((by rw [hg]; exact (q0k (by repeat (first | (with_reducible first | exact HB.out | apply bA | apply bN | apply bD) | exact HB.out))) : w.heap.size ≤ gb241)); clear HB; have HB := n0_; have BK241 := n1_; have GW241 := n2_; have GE241 := n3_; clear n0_ n1_ n2_ n3_; clear hb hbox hg) | ((with_reducible refine q15 (N := 8) rfl ?_); refine Kd.R_lit (Kd.int .i64) _ 3 ?hg (N := 8) ?hd (xs := ([a1] : List Int)) (inner := [.int .i64 a1]) (ok := fun _ => True) (okp := fun _ => True) ?hr ?hp (fun _ hk => hk) trivial (Below.refl _ _) (Nat.le_refl _) (by simp) ?_; (case hd => rfl); (case hg => rfl); (case hr => first | (go_simp; done) | (go_simp; rfl)); (case hp => exact (Reps.one (show Kd.M (Kd.int .i64) _ _ _ a1 [.int .i64 a1] from rfl) (Reps.none _ _))); intro v243 w4 ho5 hb hg_ hnew_; clear hg_ hnew_; (first | rw [← Ny242.out] at ho5 | (simp only [Int.reduceToNat] at ho5; rw [← Ny242.out] at ho5)); have n0_ := aS (Kd.R_lower ho5 (q0k (by repeat (first | (with_reducible first | exact HB.out | apply bA | apply bN | apply bD | refine bS ?_ GE241.out) | exact HB.out)))); have n1_ := aS (q16 (g := gb241) (o := .cells #[.slice A0_0 l0_0.length c0_0, .bool a0_1] 24 (0, 0)) (by (with_reducible repeat (first | refine kN ?_ _ | refine kD ?_ | refine kA ?_ _)); exact BK241.out) hb); have n2_ := aS (q09 (by repeat (first | (with_reducible first | exact HB.out | apply bA | apply bN | apply bD | refine bS ?_ GE241.out) | exact HB.out)) hb); clear BK241; clear HB; have HO244 := n0_; have BK241 := n1_; have HB := n2_; clear n0_ n1_ n2_; clear hb ho5))
 go_loopg [5, 6] k (fun kq v5 v6 w' => ∃ (x5_1 : List Int) (x6_1 : Int), v6 = .int .i64 x6_1 ∧ Aside0 (q0c.l0 kq a1 x5_1 x6_1 l0_0 a0_1 = some r) ∧ Aside0 (kq ≤ k) ∧ Aside0 (Kd.R (Kd.int .i64) 3 w' w.heap.size (fun _ => True) v5 x5_1) ∧ Aside0 (w'.heap[gb241]? = some (.cells #[(.slice A0_0 l0_0.length c0_0), .bool a0_1] 24 (0, 0))) ∧ Aside0 (Below w.heap.size w w'))
 case atStart => exact ⟨(y242), (0), (by first | rfl | (simp; done) | simp [*]), H', ⟨Nat.le_refl _⟩, ⟨by (with_reducible repeat (first | apply rA | apply rN | apply rD)); exact HO244.out⟩, ⟨by (with_reducible repeat (first | refine kN ?_ _ | refine kD ?_ | refine kA ?_ _)); exact BK241.out⟩, ⟨by repeat (first | (with_reducible first | exact HB.out | apply bA | apply bN | apply bD | refine bS ?_ GE241.out) | exact HB.out)⟩⟩
 case round =>
  clear H'
  try clear c2
  try clear p2
  obtain ⟨x5_1, x6_1, rfl, HA, HK1, HO_5, BK241, HB⟩ := hrel
  cases gk with
  | zero => exact absurd HA.out (by simp [q0c.l0])
  | succ k1 =>
   have H := HA.out
   clear HA
   simp only [q0c.l0] at H
   by_cases c6 : 0 ≤ a1
   ·rw [if_pos c6] at H
    have c6b0 : decide (0 ≤ a1) = true := decide_eq_true c6
    clear c6
    by_cases c7 : a1 < (l0_0.length : Int)
    ·rw [if_pos c7] at H
     have c7b0 : decide (a1 < (l0_0.length : Int)) = true := decide_eq_true c7
     clear c7
     by_cases c8 : x6_1 < (((q05 l0_0 a1).f5).length : Int)
     ·rw [if_pos c8] at H
      have c8b0 : decide (x6_1 < (((q05 l0_0 a1).f5).length : Int)) = true := decide_eq_true c8
      clear c8
      by_cases c9 : 0 ≤ x6_1
      ·rw [if_pos c9] at H
       have c9b0 : decide (0 ≤ x6_1) = true := decide_eq_true c9
       clear c9
       replace H := Option.bind_eq_some_iff.mp H
       obtain ⟨t248, A100, H⟩ := H
       replace H : (if x5_1.length + t248.length < 17592186044416 then (q0c.l0 k1 a1 (x5_1 ++ t248) (wrap64 (x6_1 + 1)) l0_0 a0_1) else (none)) = some r := H
       have A10 := aS A100
       clear A100
       by_cases c11 : x5_1.length + t248.length < 17592186044416
       ·rw [if_pos c11] at H
        have LMc11 := aS c11
        clear c11
        obtain ⟨y251, hy251⟩ : ∃ y_ : List Int, y_ = (x5_1 ++ t248) := ⟨_, rfl⟩
        replace H : (q0c.l0 k1 a1 y251 (wrap64 (x6_1 + 1)) l0_0 a0_1) = some r := by first | (rw [hy251]; with_reducible exact H) | (have H2_ := (Option.bind_some _ _).symm.trans H; rw [hy251]; with_reducible exact H2_) | (have H2_ := (Option.bind_some _ _).symm.trans H; with_reducible exact H2_) | with_reducible exact H | (rw [hy251]; exact H) | exact H
        have Ny251 := aS hy251
        clear hy251
        have H' := aS H
        clear H
        have hcz12_0 : wr.cell? ⟨gb241, 0, none⟩ = some (.slice A0_0 l0_0.length c0_0) := (q02 BK241.out 0).trans rfl
        have hcz12_1 : wr.cell? ⟨gb241, 1, none⟩ = some (.bool a0_1) := (q02 BK241.out 1).trans rfl
        have hfz12_0 := q01 BK241.out 0
        have hfz12_1 := q01 BK241.out 1
        have p245 : 0 ≤ (a1 : Int) := od (by first | (with_reducible assumption) | assumption)
        have q245 : a1 < (l0_0.length : Int) := od (by first | (with_reducible assumption) | assumption)
        obtain ⟨ad245, A245_2, c245_2, A245_5, c245_5, e245, hx245_0, hx245_1, hx245_2, hx245_3, hx245_4, hx245_5, hl245_2, hi245_2, hl245_5, hi245_5⟩ := q1j HR0_0.out a1 p245 q245
        cases e245
        replace hx245_0 := (HB.out.cell (World.block_lt_of_cell? w _ hx245_0)).trans hx245_0
        replace hx245_1 := (HB.out.cell (World.block_lt_of_cell? w _ hx245_1)).trans hx245_1
        replace hx245_2 := (HB.out.cell (World.block_lt_of_cell? w _ hx245_2)).trans hx245_2
        replace hx245_3 := (HB.out.cell (World.block_lt_of_cell? w _ hx245_3)).trans hx245_3
        replace hx245_4 := (HB.out.cell (World.block_lt_of_cell? w _ hx245_4)).trans hx245_4
        replace hx245_5 := (HB.out.cell (World.block_lt_of_cell? w _ hx245_5)).trans hx245_5
        have HR245_2 := aS hi245_2
        have HC245_2 := aS hl245_2
        clear hi245_2 hl245_2
        have HR245_5 := aS hi245_5
        have HC245_5 := aS hl245_5
        clear hi245_5 hl245_5
        replace p245 := eq_true p245
        replace q245 := eq_true q245
        try go_wp2
        have n0_ := aS (Kd.R_drew HO_5.out)
        have n1_ := aS (blk_drew BK241.out)
        have n2_ := aS (q2f HB.out)
        clear HO_5
        clear BK241
        clear HB
        have HO_5 := n0_
        have BK241 := n1_
        have HB := n2_
        clear n0_ n1_ n2_
        have p246 : 0 ≤ (a1 : Int) := od (by first | (with_reducible assumption) | assumption)
        have q246 : a1 < (l0_0.length : Int) := od (by first | (with_reducible assumption) | assumption)
        obtain ⟨ad246, A246_2, c246_2, A246_5, c246_5, e246, hx246_0, hx246_1, hx246_2, hx246_3, hx246_4, hx246_5, hl246_2, hi246_2, hl246_5, hi246_5⟩ := q1j HR0_0.out a1 p246 q246
        have hw246_5 := hx246_5
        have hw246_4 := hx246_4
        have hw246_3 := hx246_3
        have hw246_2 := hx246_2
        have hw246_1 := hx246_1
        have hw246_0 := hx246_0
        obtain rfl : ad245 = ad246 := (by injection e246)
        replace hx246_0 := (HB.out.cell (World.block_lt_of_cell? w _ hx246_0)).trans hx246_0
        replace hx246_1 := (HB.out.cell (World.block_lt_of_cell? w _ hx246_1)).trans hx246_1
        replace hx246_2 := (HB.out.cell (World.block_lt_of_cell? w _ hx246_2)).trans hx246_2
        replace hx246_3 := (HB.out.cell (World.block_lt_of_cell? w _ hx246_3)).trans hx246_3
        replace hx246_4 := (HB.out.cell (World.block_lt_of_cell? w _ hx246_4)).trans hx246_4
        replace hx246_5 := (HB.out.cell (World.block_lt_of_cell? w _ hx246_5)).trans hx246_5
        have HR246_2 := aS hi246_2
        have HC246_2 := aS hl246_2
        clear hi246_2 hl246_2
        have HR246_5 := aS hi246_5
        have HC246_5 := aS hl246_5
        clear hi246_5 hl246_5
        replace p246 := eq_true p246
        replace q246 := eq_true q246
        have p247 : 0 ≤ (x6_1 : Int) := od (by first | (with_reducible assumption) | assumption)
        have q247 : x6_1 < (((q05 l0_0 a1).f5).length : Int) := od (by first | (with_reducible assumption) | assumption)
        obtain ⟨ad247, e247, hx247_0⟩ := Kd.at_int HR246_5.out x6_1 p247 q247
        have hw247_0 := hx247_0
        cases e247
        replace hx247_0 := (HB.out.cell (World.block_lt_of_cell? w _ hx247_0)).trans hx247_0
        replace p247 := eq_true p247
        replace q247 := eq_true q247
        refine start_ (n := 14) (S := fun w' => w'.cell? ⟨gb241, 0, none⟩ = some (.slice (some ad245) l0_0.length c0_0) ∧ w'.cell? ⟨gb241, 1, none⟩ = some (.bool a0_1) ∧ w'.cell? (ad245.add ((a1).toNat * 6)) = some (.int .i64 ((q05 l0_0 a1).f0)) ∧ w'.cell? ⟨(ad245.add ((a1).toNat * 6)).block, (ad245.add ((a1).toNat * 6)).off + 1, none⟩ = some (.string ((q05 l0_0 a1).f1)) ∧ w'.cell? ⟨(ad245.add ((a1).toNat * 6)).block, (ad245.add ((a1).toNat * 6)).off + 2, none⟩ = some (.slice A246_2 ((q05 l0_0 a1).f2).length c246_2) ∧ w'.cell? ⟨(ad245.add ((a1).toNat * 6)).block, (ad245.add ((a1).toNat * 6)).off + 3, none⟩ = some (.string ((q05 l0_0 a1).f3)) ∧ w'.cell? ⟨(ad245.add ((a1).toNat * 6)).block, (ad245.add ((a1).toNat * 6)).off + 4, none⟩ = some (.int .i64 ((q05 l0_0 a1).f4)) ∧ w'.cell? ⟨(ad245.add ((a1).toNat * 6)).block, (ad245.add ((a1).toNat * 6)).off + 5, none⟩ = some (.slice (some ad247) ((q05 l0_0 a1).f5).length c246_5) ∧ w'.cell? (ad247.add (x6_1).toNat) = some (.int .i64 (rd ((q05 l0_0 a1).f5) x6_1))) (ds := []) #[false, false, false, false, false, false, false, false, false, false, false, false, false, false] (by kernel_rfl) rfl rfl ⟨(q02 BK241.out 0).trans rfl, (q02 BK241.out 1).trans rfl, ((HB.out.cell (World.block_lt_of_cell? w _ hw246_0)).trans hw246_0), ((HB.out.cell (World.block_lt_of_cell? w _ hw246_1)).trans hw246_1), ((HB.out.cell (World.block_lt_of_cell? w _ hw246_2)).trans hw246_2), ((HB.out.cell (World.block_lt_of_cell? w _ hw246_3)).trans hw246_3), ((HB.out.cell (World.block_lt_of_cell? w _ hw246_4)).trans hw246_4), ((HB.out.cell (World.block_lt_of_cell? w _ hw246_5)).trans hw246_5), ((HB.out.cell (World.block_lt_of_cell? w _ hw247_0)).trans hw247_0)⟩ (fun hHeld => ?_); refine with_tabW q0c.tab5 q0c.bits5 (fun HT_ HW_ => ?_)
        generalize wr.drew = w13 at HO_5 BK241 HB HR246_2 HR246_5 hx246_0 hx246_1 hx246_2 hx246_3 hx246_4 hx246_5 hx247_0 hHeld ⊢
        refine q1u (i := 0) (N := some 20) (v := ?_) (a' := ?_) #[true, false, false, false, false, false, false, false, false, false, false, false, false, false] rfl rfl (q1n HT_.out (by kernel_rfl)) (fun _ _ _ h => h) (Or.inl ⟨by rfl, ?_⟩) ?_ ?_
        rotate_left
        ·intro w'
         go_simp
         with_reducible rfl
        rotate_left
        ·simp only [Act.put, s1, s2, s3, q1e, q1i]
         rfl
        refine q1u (i := 2) (N := some 22) (v := ?_) (a' := ?_) #[true, false, true, false, false, false, false, false, false, false, false, false, false, false] rfl rfl (q1n HT_.out (by kernel_rfl)) (fun _ _ _ h => h) (Or.inl ⟨by rfl, ?_⟩) ?_ ?_
        rotate_left
        ·intro w'
         go_simp
         with_reducible rfl
        rotate_left
        ·simp only [Act.put, s1, s2, s3, q1e, q1i]
         rfl
        refine q1u (i := 4) (N := some 24) (v := ?_) (a' := ?_) #[true, false, true, false, true, false, false, false, false, false, false, false, false, false] rfl rfl (q1n HT_.out (by kernel_rfl)) (fun _ _ _ h => h) (Or.inl ⟨by rfl, ?_⟩) ?_ ?_
        rotate_left
        ·intro w'
         go_simp
         with_reducible rfl
        rotate_left
        ·simp only [Act.put, s1, s2, s3, q1e, q1i]
         rfl
        refine q1u (i := 8) (N := some 28) (v := ?_) (a' := ?_) #[true, false, true, false, true, false, false, false, true, false, false, false, false, false] rfl rfl (q1n HT_.out (by kernel_rfl)) (fun _ _ _ h => h) (Or.inl ⟨by rfl, ?_⟩) ?_ ?_
        rotate_left
        ·intro w'
         go_simp
         with_reducible rfl
        rotate_left
        ·simp only [Act.put, s1, s2, s3, q1e, q1i]
         rfl
        refine take_ (i := 1) (N := some 21) (v := ?_) (a' := ?_) #[true, true, true, false, true, false, false, false, true, false, false, false, false, false] rfl rfl (q2q HT_.out HW_.out (by kernel_rfl)) (fun _ _ _ h => h) (Or.inl ⟨by rfl, ?_⟩) hHeld ?_ ?_
        rotate_left
        ·rintro w' ⟨s0, s1, s2, s3, s4, s5, s6, s7, s8⟩
         go_simp
         with_reducible rfl
        rotate_left
        ·simp only [Act.put, s1, s2, s3, q1e, q1i]
         rfl
        refine take_ (i := 3) (N := some 23) (v := ?_) (a' := ?_) #[true, true, true, true, true, false, false, false, true, false, false, false, false, false] rfl rfl (q2q HT_.out HW_.out (by kernel_rfl)) (fun _ _ _ h => h) (Or.inl ⟨by rfl, ?_⟩) hHeld ?_ ?_
        rotate_left
        ·rintro w' ⟨s0, s1, s2, s3, s4, s5, s6, s7, s8⟩
         go_simp
         with_reducible rfl
        rotate_left
        ·simp only [Act.put, s1, s2, s3, q1e, q1i]
         rfl
        refine q1u (i := 5) (N := some 25) (v := ?_) (a' := ?_) #[true, true, true, true, true, true, false, false, true, false, false, false, false, false] rfl rfl (q1n HT_.out (by kernel_rfl)) (fun _ _ _ h => h) (Or.inl ⟨by rfl, ?_⟩) ?_ ?_
        rotate_left
        ·intro w'
         go_simp
         with_reducible rfl
        rotate_left
        ·simp only [Act.put, s1, s2, s3, q1e, q1i]
         rfl
        refine q1u (i := 6) (N := some 26) (v := ?_) (a' := ?_) #[true, true, true, true, true, true, true, false, true, false, false, false, false, false] rfl rfl (q1n HT_.out (by kernel_rfl)) (fun _ _ _ h => h) (Or.inl ⟨by rfl, ?_⟩) ?_ ?_
        rotate_left
        ·intro w'
         go_simp
         with_reducible rfl
        rotate_left
        ·simp only [Act.put, s1, s2, s3, q1e, q1i]
         rfl
        refine take_ (i := 7) (N := some 27) (v := ?_) (a' := ?_) #[true, true, true, true, true, true, true, true, true, false, false, false, false, false] rfl rfl (q2q HT_.out HW_.out (by kernel_rfl)) (fun _ _ _ h => h) (Or.inl ⟨by rfl, ?_⟩) hHeld ?_ ?_
        rotate_left
        ·rintro w' ⟨s0, s1, s2, s3, s4, s5, s6, s7, s8⟩
         go_simp
         with_reducible rfl
        rotate_left
        ·simp only [Act.put, s1, s2, s3, q1e, q1i]
         rfl
        refine q1u (i := 9) (N := some 29) (v := ?_) (a' := ?_) #[true, true, true, true, true, true, true, true, true, true, false, false, false, false] rfl rfl (q1n HT_.out (by kernel_rfl)) (fun _ _ _ h => h) (Or.inl ⟨by rfl, ?_⟩) ?_ ?_
        rotate_left
        ·intro w'
         go_simp
         with_reducible rfl
        rotate_left
        ·simp only [Act.put, s1, s2, s3, q1e, q1i]
         rfl
        refine take_ (i := 10) (N := some 30) (v := ?_) (a' := ?_) #[true, true, true, true, true, true, true, true, true, true, true, false, false, false] rfl rfl (q2q HT_.out HW_.out (by kernel_rfl)) (fun _ _ _ h => h) (Or.inl ⟨by rfl, ?_⟩) hHeld ?_ ?_
        rotate_left
        ·rintro w' ⟨s0, s1, s2, s3, s4, s5, s6, s7, s8⟩
         go_simp
         with_reducible rfl
        rotate_left
        ·simp only [Act.put, s1, s2, s3, q1e, q1i]
         rfl
        refine one_ (i := 11) (N := some 31) #[true, true, true, true, true, true, true, true, true, true, true, true, false, false] rfl rfl (one_of HT_.out (by kernel_rfl)) (by decide) (fun K hK => ?_)
        refine goes_ Tryd.func25 (by kernel_rfl) rfl #[.agg #[.slice (some ad245) l0_0.length c0_0, .bool a0_1], .int .i64 (rd ((q05 l0_0 a1).f5) x6_1)] (by rfl) rfl rfl (by (try simp only [List.map_toArray, List.map_cons, List.map_nil]); first | done | rfl | (simp only [List.length_drop, List.length_take]; rfl)) ?_
        with_reducible refine (ih k1 (by have := HK1.out; omega) _ _ l0_0 a0_1 (rd ((q05 l0_0 a1).f5) x6_1) t248 _ ?side1 ?side2 A10.out).mono ?_
        (case side1 => repeat (first | exact (Kd.C_below HR0_0.out HB.out) | (with_reducible refine cA ?_ _) | (with_reducible refine cN ?_ _) | (with_reducible refine cD ?_)))
        (case side2 => exact HC0_0.out)
        rintro e w14 ⟨v249, rfl, ho0, hb⟩
        refine ⟨_, rfl, ?_⟩
        have n0_ := aS (Kd.R_elder' (by (with_reducible repeat (first | apply rA | apply rN | apply rD)); exact HO_5.out) (Kd.R_base ho0) hb)
        have n1_ := aS (Kd.R_lower (Kd.R_new' ho0 (Kd.R_lt (by (with_reducible repeat (first | apply rA | apply rN | apply rD)); exact HO_5.out))) (q0k (by repeat (first | (with_reducible first | exact HB.out | apply bA | apply bN | apply bD | refine bS ?_ GE241.out) | exact HB.out))))
        have n2_ := aS (q16 (g := gb241) (o := .cells #[.slice (some ad245) l0_0.length c0_0, .bool a0_1] 24 (0, 0)) (by (with_reducible repeat (first | refine kN ?_ _ | refine kD ?_ | refine kA ?_ _)); exact BK241.out) hb)
        have n3_ := aS (q09 (by repeat (first | (with_reducible first | exact HB.out | apply bA | apply bN | apply bD | refine bS ?_ GE241.out) | exact HB.out)) hb)
        clear HO_5
        clear BK241
        clear HB
        have HO_5 := n0_
        have HO250 := n1_
        have BK241 := n2_
        have HB := n3_
        clear n0_ n1_ n2_ n3_
        (try clear hb)
        (try clear hb2)
        (try clear hk)
        (try clear hi)
        (try clear ho0)
        obtain ⟨Ao16, co16, eo16⟩ := Kd.R_slice HO250.out
        (first | subst eo16 | (injection eo16 with f1_ f2_ f3_; have f4_ := f1_.symm; have f5_ := f3_.symm; clear f1_ f2_ f3_; subst f4_; subst f5_))
        refine hK.out _ _ ⟨(q02 BK241.out 0).trans rfl, (q02 BK241.out 1).trans rfl, ((HB.out.cell (World.block_lt_of_cell? w _ hw246_0)).trans hw246_0), ((HB.out.cell (World.block_lt_of_cell? w _ hw246_1)).trans hw246_1), ((HB.out.cell (World.block_lt_of_cell? w _ hw246_2)).trans hw246_2), ((HB.out.cell (World.block_lt_of_cell? w _ hw246_3)).trans hw246_3), ((HB.out.cell (World.block_lt_of_cell? w _ hw246_4)).trans hw246_4), ((HB.out.cell (World.block_lt_of_cell? w _ hw246_5)).trans hw246_5), ((HB.out.cell (World.block_lt_of_cell? w _ hw247_0)).trans hw247_0)⟩ (fun hHeld => ?_)
        clear hK K
        refine norm_ (a' := ?_) ?_ ?_
        rotate_left
        ·show Act.put _ (some 31) _ = _
         simp only [Act.put, s1, s2, s3, q1e, q1i]
         rfl
        refine one_ (i := 12) (N := some 32) #[true, true, true, true, true, true, true, true, true, true, true, true, true, false] rfl rfl (one_of HT_.out (by kernel_rfl)) (by decide) (fun K hK => ?_)
        refine Kd.R_append_rows_step (Kd.int .i64) (w0 := w) w.heap.size (by rfl) (.tmp 20) (.tmp 31) 31 3 (.int .i64 0) 8 rfl Tryd.underlying31 info3 rfl (by decide) (by omega) u5 x5_1 t248 _ _ _ (fun k_ => some k_ ≠ (.slice Ao16 t248.length co16 : Value).ownBlock) (fun _ => False) rfl rfl ?aO ?aR (fun _ _ h => h) (fun _ h => h.elim) ?aF ?aB ?aS ?aL ?_
        (case aR => repeat (first | exact (Kd.R_reads' HO250.out).2.2 | (with_reducible refine cA ?_ _) | (with_reducible refine cN ?_ _) | (with_reducible refine cD ?_)))
        (case aB => exact (by repeat (first | (with_reducible first | exact HB.out | apply bA | apply bN | apply bD | refine bS ?_ GE241.out) | exact HB.out)))
        (case aF => exact (fun k_ hk => Kd.fresh' (Kd.R_lt (by (with_reducible repeat (first | apply rA | apply rN | apply rD)); exact HO250.out)) k_ hk))
        (case aO => exact (by (with_reducible repeat (first | apply rA | apply rN | apply rD)); exact Kd.R_mono HO_5.out (fun _ hk => hk.2)))
        (case aS => exact (q0k (by repeat (first | (with_reducible first | exact HB.out | apply bA | apply bN | apply bD | refine bS ?_ GE241.out) | exact HB.out))))
        (case aL => have := LMc11.out; omega)
        intro v252 w15 ho hb hg hat
        rw [← Ny251.out] at ho
        have n0_ := aS (blk_grown (g := gb241) (o := .cells #[.slice (some ad245) l0_0.length c0_0, .bool a0_1] 24 (0, 0)) (by (with_reducible repeat (first | refine kN ?_ _ | refine kD ?_ | refine kA ?_ _)); exact BK241.out) hg (Kd.R_ne HO_5.out BK241.out (by decide)))
        have n1_ := aS (Kd.R_after (ok := (fun _ => True)) (by (with_reducible repeat (first | apply rA | apply rN | apply rD)); exact HO250.out) hg hat)
        have n2_ := aS (hb)
        have n3_ := aS (ho)
        clear BK241
        clear HO250
        clear HB
        clear HO_5
        have BK241 := n0_
        have HO250 := n1_
        have HB := n2_
        have HO253 := n3_
        clear n0_ n1_ n2_ n3_
        clear ho hb hg hat
        refine hK.out _ _ ⟨(q02 BK241.out 0).trans rfl, (q02 BK241.out 1).trans rfl, ((HB.out.cell (World.block_lt_of_cell? w _ hw246_0)).trans hw246_0), ((HB.out.cell (World.block_lt_of_cell? w _ hw246_1)).trans hw246_1), ((HB.out.cell (World.block_lt_of_cell? w _ hw246_2)).trans hw246_2), ((HB.out.cell (World.block_lt_of_cell? w _ hw246_3)).trans hw246_3), ((HB.out.cell (World.block_lt_of_cell? w _ hw246_4)).trans hw246_4), ((HB.out.cell (World.block_lt_of_cell? w _ hw246_5)).trans hw246_5), ((HB.out.cell (World.block_lt_of_cell? w _ hw247_0)).trans hw247_0)⟩ (fun hHeld => ?_)
        clear hK K
        refine norm_ (a' := ?_) ?_ ?_
        rotate_left
        ·show Act.put _ (some 32) _ = _
         simp only [Act.put, s1, s2, s3, q1e, q1i]
         rfl
        refine q1u (i := 13) (N := some 5) (v := ?_) (a' := ?_) #[true, true, true, true, true, true, true, true, true, true, true, true, true, true] rfl rfl (q1n HT_.out (by kernel_rfl)) (fun _ _ _ h => h) (Or.inl ⟨by rfl, ?_⟩) ?_ ?_
        rotate_left
        ·intro w'
         go_simp
         with_reducible rfl
        rotate_left
        ·simp only [Act.put, s1, s2, s3, q1e, q1i]
         rfl
        refine done_ (done_of HT_.out (by kernel_rfl)) ?_
        try go_wp2
        go_roundg k1
        case measure => have := HK1.out; omega
        case rel => exact ⟨(y251), (wrap64 (x6_1 + 1)), (by first | rfl | (simp; done) | simp [*]), H', ⟨by have := HK1.out; omega⟩, ⟨by (with_reducible repeat (first | apply rA | apply rN | apply rD)); exact Kd.R_mono HO253.out (fun _ hk => trivial)⟩, ⟨by (with_reducible repeat (first | refine kN ?_ _ | refine kD ?_ | refine kA ?_ _)); exact BK241.out⟩, ⟨by repeat (first | (with_reducible first | exact HB.out | apply bA | apply bN | apply bD | refine bS ?_ GE241.out) | exact HB.out)⟩⟩
       ·rw [if_neg c11] at H
        exact absurd H (by simp)
      ·rw [if_neg c9] at H
       exact absurd H (by simp)
     ·rw [if_neg c8] at H
      have c8b0 : decide (x6_1 < (((q05 l0_0 a1).f5).length : Int)) = false := decide_eq_false c8
      clear c8
      obtain rfl := Option.some.inj H
      have hcz17_0 : wr.cell? ⟨gb241, 0, none⟩ = some (.slice A0_0 l0_0.length c0_0) := (q02 BK241.out 0).trans rfl
      have hcz17_1 : wr.cell? ⟨gb241, 1, none⟩ = some (.bool a0_1) := (q02 BK241.out 1).trans rfl
      have hfz17_0 := q01 BK241.out 0
      have hfz17_1 := q01 BK241.out 1
      have p245 : 0 ≤ (a1 : Int) := od (by first | (with_reducible assumption) | assumption)
      have q245 : a1 < (l0_0.length : Int) := od (by first | (with_reducible assumption) | assumption)
      obtain ⟨ad245, A245_2, c245_2, A245_5, c245_5, e245, hx245_0, hx245_1, hx245_2, hx245_3, hx245_4, hx245_5, hl245_2, hi245_2, hl245_5, hi245_5⟩ := q1j HR0_0.out a1 p245 q245
      cases e245
      replace hx245_0 := (HB.out.cell (World.block_lt_of_cell? w _ hx245_0)).trans hx245_0
      replace hx245_1 := (HB.out.cell (World.block_lt_of_cell? w _ hx245_1)).trans hx245_1
      replace hx245_2 := (HB.out.cell (World.block_lt_of_cell? w _ hx245_2)).trans hx245_2
      replace hx245_3 := (HB.out.cell (World.block_lt_of_cell? w _ hx245_3)).trans hx245_3
      replace hx245_4 := (HB.out.cell (World.block_lt_of_cell? w _ hx245_4)).trans hx245_4
      replace hx245_5 := (HB.out.cell (World.block_lt_of_cell? w _ hx245_5)).trans hx245_5
      have HR245_2 := aS hi245_2
      have HC245_2 := aS hl245_2
      clear hi245_2 hl245_2
      have HR245_5 := aS hi245_5
      have HC245_5 := aS hl245_5
      clear hi245_5 hl245_5
      replace p245 := eq_true p245
      replace q245 := eq_true q245
      go_wp2
      go_ret
      exact ⟨_, by first | rfl | (simp [q0b, q0a] <;> rfl) | (simp [*, q0b, q0a] <;> rfl), by (with_reducible repeat (first | apply rA | apply rN | apply rD)); exact HO_5.out, by repeat (first | (with_reducible first | exact HB.out | apply bA | apply bN | apply bD | refine bS ?_ GE241.out) | exact HB.out)⟩
    ·rw [if_neg c7] at H
     exact absurd H (by simp)
   ·rw [if_neg c6] at H
    exact absurd H (by simp)
end Go.Proofs.YthjnallbbhnndaaDoor.XWk
namespace Go.Proofs.YthjnallbbhnndaaDoor.XWk
open Go.Proofs.YthjnallbbhnndaaDoor.Short Go.RowKit Go.Proofs.YthjnallbbhnndaaDoorW.PrintWords Go.Proofs.YthjnallbbhnndaaDoorW.PrintLast Go.Proofs.YthjnallbbhnndaaDoorW.PrintMore
attribute [local go_sem] q27 q25 q2l q2k q1w q1v q26 q24   -- for this text's walks alone
set_option linter.unusedVariables false
set_option linter.unusedSimpArgs false
def stepAt (l : List Int) (j : Int) : Int := if j < 0 ∨ j ≥ (l.length : Int) then -1 else rd l j
def stepB (p : Int) (ks : List Int) (j : Int) : Int := if p < 0 ∨ j < 0 ∨ j ≥ (ks.length : Int) then -1 else rd ks j
def q2r (k : Nat) (l0 : List S43) (a1 : Bool) (n how : Int) (l : List Int) (i kk p : Int) (ks : List Int) : Option Int :=
 if how = 1 then some (stepAt l (wrap64 (i + 1))) else if how = 2 then some (stepAt l (wrap64 (i - 1))) else if how = 3 then (q0c.f k l0 a1 n).map fun l2 => stepAt l (wrap64 (i + (l2.length : Int)))
 else if how = 4 then some (if ((q05 l0 n).f5.length : Int) = 0 then -1 else rd (q05 l0 n).f5 0)
 else if how = 5 then some (if ((q05 l0 n).f5.length : Int) = 0 then -1 else rd (q05 l0 n).f5 (((q05 l0 n).f5.length : Int) - 1))
 else if how = 6 then some (stepB p ks (wrap64 (kk + 1))) else if how = 7 then some (stepB p ks (wrap64 (wrap64 (kk + 1) - 2))) else some p
def q0n.f (k : Nat) (l0 : List S43) (a1 : Bool) (n how : Int) : Option Int :=
 (q0c.f k l0 a1 0).bind fun l => (q08.f k l n).bind fun i => if 0 ≤ n ∧ n < (l0.length : Int) ∧ (q05 l0 n).f5.length ≤ 4611686018427387904 then
  (if (q05 l0 n).f4 < 0 then q2r k l0 a1 n how l i 0 (q05 l0 n).f4 [] else if (q05 l0 n).f4 < (l0.length : Int) then
   (q08.f k (q05 l0 (q05 l0 n).f4).f5 n).bind fun kk => q2r k l0 a1 n how l i kk (q05 l0 n).f4 (q05 l0 (q05 l0 n).f4).f5 else none) else none
set_option maxHeartbeats 16000000 in
set_option maxRecDepth 100000 in
theorem q0n.pos (k : Nat) (A0 : Option Addr) (c0 : Nat) (l0 : List S43) (a1 : Bool) (n how r : Int) (l : List Int) (i : Int) (w : World) (hr0 : Kd.C k43 w A0 l0.length l0) (hc0 : l0.length ≤ c0) (hl : q0c.f k l0 a1 0 = some l) (hi : q08.f k l n = some i)
 (n0 : 0 ≤ n) (n1 : n < (l0.length : Int)) (n5 : (q05 l0 n).f5.length ≤ 4611686018427387904) (kk : Int) (p : Int) (hpe : (q05 l0 n).f4 = p) (p0 : 0 ≤ p) (p1 : p < (l0.length : Int)) (ks : List Int) (hks : (q05 l0 p).f5 = ks) (hk : q08.f k ks n = some kk) (h : q2r k l0 a1 n how l i kk p ks = some r) :
 Calls Tryd.prog 19 #[.agg #[.slice A0 l0.length c0, .bool a1], .int .i64 n, .int .i64 how] w fun e w' => e = .returned (.int .i64 r) ∧ Below w.heap.size w w' := by
 have hu24 := Tryd.underlying24
 have hu43 := Tryd.underlying43
 have HR := aS hr0
 have HC := aS hc0
 have HL := aS hl
 have HI := aS hi
 have HN5 := aS n5
 have HB := aS (Below.refl w.heap.size w)
 clear hr0 hc0 hl hi n5
 obtain ⟨adn, An2, cn2, An, cn, en, hn0, hn1, hn2, hn3, hn4, hn5, hln2, hin2, hln5, hin5⟩ := q1j HR.out n n0 n1
 subst en
 have HNC := aS hin5
 have HNL := aS hln5
 clear hn0 hn1 hn2 hn3 hln2 hin2 hln5 hin5
 obtain ⟨adp, Ap2, cp2, Ak, ck, ep, hp0, hp1, hp2, hp3, hp4, hp5, hlp2, hip2, hlp5, hip5⟩ := q1j HR.out p p0 p1
 injection ep with ep
 subst ep
 rw [hks] at hip5 hlp5 hp5
 have HKC := aS hip5
 have HKL := aS hlp5
 have HK := aS hk
 have HP0 := aS p0
 rw [hpe] at hn4
 have p0b : decide (0 ≤ p) = true := decide_eq_true p0
 have p0c : decide (p < 0) = false := decide_eq_false (by omega)
 replace p0 := eq_true p0
 replace p1 := eq_true p1
 clear hp0 hp1 hp2 hp3 hp4 hlp2 hip2 hlp5 hip5 hk hpe hks
 replace n0 := eq_true n0
 replace n1 := eq_true n1
 unfold q2r at h
 by_cases h1 : how = 1
 rw [if_pos h1] at h
 have h1b : (how == 1) = true := beq_iff_eq.mpr h1
 clear h1
 obtain ⟨j, hj⟩ : ∃ j, wrap64 (i + 1) = j := ⟨_, rfl⟩
 rw [hj] at h
 have hjw : IntKind.i64.wrap (i + 1) = j := by first | exact hj | (simp only [q1e]; exact hj)
 unfold stepAt at h
 by_cases j0 : j < 0
 rw [if_pos (.inl j0)] at h
 obtain rfl := Option.some.inj h
 have j0b : decide (j < 0) = true := decide_eq_true j0
 clear h j0
 rotate_left
 have j0b : decide (j < 0) = false := decide_eq_false j0
 by_cases j1 : j ≥ (l.length : Int)
 rw [if_pos (.inr j1)] at h
 obtain rfl := Option.some.inj h
 have j1b : decide ((l.length : Int) ≤ j) = true := decide_eq_true j1
 clear h j0 j1
 rotate_left
 rw [if_neg (by omega)] at h
 obtain rfl := Option.some.inj h
 have j1b : decide ((l.length : Int) ≤ j) = false := decide_eq_false j1
 have p7 : 0 ≤ j := by omega
 have q7 : j < (l.length : Int) := by omega
 have P7 := aS p7
 have Q7 := aS q7
 replace p7 := eq_true p7
 replace q7 := eq_true q7
 clear h j0 j1
 focus (go_enter Tryd.func19, Tryd.ntmps19; go_wp2_with (first | ((with_reducible refine q15 (N := 3) rfl ?_); refine q0y ?hg (N := 3) ?hd (cs := #[.slice (some adn) l0.length c0, .bool a1]) (t := 24) ?hr ?_; (case hd => rfl); (case hg => rfl); (case hr => first | (go_simp; done) | (go_simp; rfl)); intro gb hg wb hbox hb; have n0_ := aS (q09 (by repeat (first | exact HB.out | apply bA | apply bN | apply bD)) hb); have BK := aS hbox; have hcz0 : wb.cell? ⟨gb, 0, none⟩ = some (.slice (some adn) l0.length c0) := (q02 BK.out 0).trans rfl; have hcz1 : wb.cell? ⟨gb, 1, none⟩ = some (.bool a1) := (q02 BK.out 1).trans rfl; clear HB; have HB := n0_; clear n0_ hg hbox hb) | (go_at_call 25; (with_reducible refine (q0c.calls k (some adn) c0 l0 a1 0 l _ (Kd.C_below HR.out (by repeat (first | exact HB.out | apply bA | apply bN | apply bD))) HC.out HL.out).mono ?_); rintro e wl ⟨vl, rfl, ho, hb⟩; have n0_ := aS (q09 (by repeat (first | exact HB.out | apply bA | apply bN | apply bD)) hb); obtain ⟨Al, cl, eo⟩ := Kd.R_slice ho; subst eo; have HLC := aS (Kd.R_reads' ho).2.2; have HLK := aS (Kd.R_reads' ho).2.1; clear HB; have HB := n0_; clear n0_ ho; have BKn := aS (q0g.blk BK.out hb); clear BK; have BK := BKn; clear BKn; clear hcz0 hcz1; have hcz0 : wl.cell? ⟨gb, 0, none⟩ = some (.slice (some adn) l0.length c0) := (q02 BK.out 0).trans rfl; have hcz1 : wl.cell? ⟨gb, 1, none⟩ = some (.bool a1) := (q02 BK.out 1).trans rfl; clear hb; replace hn4 := (HB.out.cell (World.block_lt_of_cell? w _ hn4)).trans hn4; replace hn5 := (HB.out.cell (World.block_lt_of_cell? w _ hn5)).trans hn5; replace hp5 := (HB.out.cell (World.block_lt_of_cell? w _ hp5)).trans hp5; obtain ⟨ad7, e7, hx7⟩ := Kd.at_int HLC.out j P7.out Q7.out; subst e7) | (go_at_call 74; (with_reducible refine (q08.calls k (some ad7) cl l n i _ (by repeat (first | (with_reducible exact HLC.out) | (with_reducible refine Kd.C_drewN ?_ _) | (with_reducible refine Kd.C_drew ?_) | (with_reducible refine Kd.C_alloc ?_ _))) HLK.out HI.out).mono ?_); rintro e w' ⟨rfl, ⟨nd, rfl⟩⟩) | (go_at_call 74; (with_reducible refine (q08.calls k Ak ck ks n kk _ (Kd.C_below HKC.out (by repeat (first | exact HB.out | apply bA | apply bN | apply bD))) HKL.out HK.out).mono ?_); rintro e w' ⟨rfl, ⟨nd, rfl⟩⟩)); (repeat (go_quiet (fail); try go_wp2)); go_ret; exact ⟨rfl, (by repeat (first | exact HB.out | apply bA | apply bN | apply bD))⟩)
 rw [if_neg h1] at h
 have h1b : (how == 1) = false := beq_eq_false_iff_ne.mpr h1
 by_cases h2 : how = 2
 rw [if_pos h2] at h
 have h2b : (how == 2) = true := beq_iff_eq.mpr h2
 clear h2
 obtain ⟨j, hj⟩ : ∃ j, wrap64 (i - 1) = j := ⟨_, rfl⟩
 rw [hj] at h
 have hjw : IntKind.i64.wrap (i - 1) = j := by first | exact hj | (simp only [q1e]; exact hj)
 unfold stepAt at h
 by_cases j0 : j < 0
 rw [if_pos (.inl j0)] at h
 obtain rfl := Option.some.inj h
 have j0b : decide (j < 0) = true := decide_eq_true j0
 clear h j0
 rotate_left
 have j0b : decide (j < 0) = false := decide_eq_false j0
 by_cases j1 : j ≥ (l.length : Int)
 rw [if_pos (.inr j1)] at h
 obtain rfl := Option.some.inj h
 have j1b : decide ((l.length : Int) ≤ j) = true := decide_eq_true j1
 clear h j0 j1
 rotate_left
 rw [if_neg (by omega)] at h
 obtain rfl := Option.some.inj h
 have j1b : decide ((l.length : Int) ≤ j) = false := decide_eq_false j1
 have p7 : 0 ≤ j := by omega
 have q7 : j < (l.length : Int) := by omega
 have P7 := aS p7
 have Q7 := aS q7
 replace p7 := eq_true p7
 replace q7 := eq_true q7
 clear h j0 j1
 focus (go_enter Tryd.func19, Tryd.ntmps19; go_wp2_with (first | ((with_reducible refine q15 (N := 3) rfl ?_); refine q0y ?hg (N := 3) ?hd (cs := #[.slice (some adn) l0.length c0, .bool a1]) (t := 24) ?hr ?_; (case hd => rfl); (case hg => rfl); (case hr => first | (go_simp; done) | (go_simp; rfl)); intro gb hg wb hbox hb; have n0_ := aS (q09 (by repeat (first | exact HB.out | apply bA | apply bN | apply bD)) hb); have BK := aS hbox; have hcz0 : wb.cell? ⟨gb, 0, none⟩ = some (.slice (some adn) l0.length c0) := (q02 BK.out 0).trans rfl; have hcz1 : wb.cell? ⟨gb, 1, none⟩ = some (.bool a1) := (q02 BK.out 1).trans rfl; clear HB; have HB := n0_; clear n0_ hg hbox hb) | (go_at_call 25; (with_reducible refine (q0c.calls k (some adn) c0 l0 a1 0 l _ (Kd.C_below HR.out (by repeat (first | exact HB.out | apply bA | apply bN | apply bD))) HC.out HL.out).mono ?_); rintro e wl ⟨vl, rfl, ho, hb⟩; have n0_ := aS (q09 (by repeat (first | exact HB.out | apply bA | apply bN | apply bD)) hb); obtain ⟨Al, cl, eo⟩ := Kd.R_slice ho; subst eo; have HLC := aS (Kd.R_reads' ho).2.2; have HLK := aS (Kd.R_reads' ho).2.1; clear HB; have HB := n0_; clear n0_ ho; have BKn := aS (q0g.blk BK.out hb); clear BK; have BK := BKn; clear BKn; clear hcz0 hcz1; have hcz0 : wl.cell? ⟨gb, 0, none⟩ = some (.slice (some adn) l0.length c0) := (q02 BK.out 0).trans rfl; have hcz1 : wl.cell? ⟨gb, 1, none⟩ = some (.bool a1) := (q02 BK.out 1).trans rfl; clear hb; replace hn4 := (HB.out.cell (World.block_lt_of_cell? w _ hn4)).trans hn4; replace hn5 := (HB.out.cell (World.block_lt_of_cell? w _ hn5)).trans hn5; replace hp5 := (HB.out.cell (World.block_lt_of_cell? w _ hp5)).trans hp5; obtain ⟨ad7, e7, hx7⟩ := Kd.at_int HLC.out j P7.out Q7.out; subst e7) | (go_at_call 74; (with_reducible refine (q08.calls k (some ad7) cl l n i _ (by repeat (first | (with_reducible exact HLC.out) | (with_reducible refine Kd.C_drewN ?_ _) | (with_reducible refine Kd.C_drew ?_) | (with_reducible refine Kd.C_alloc ?_ _))) HLK.out HI.out).mono ?_); rintro e w' ⟨rfl, ⟨nd, rfl⟩⟩) | (go_at_call 74; (with_reducible refine (q08.calls k Ak ck ks n kk _ (Kd.C_below HKC.out (by repeat (first | exact HB.out | apply bA | apply bN | apply bD))) HKL.out HK.out).mono ?_); rintro e w' ⟨rfl, ⟨nd, rfl⟩⟩)); (repeat (go_quiet (fail); try go_wp2)); go_ret; exact ⟨rfl, (by repeat (first | exact HB.out | apply bA | apply bN | apply bD))⟩)
 rw [if_neg h2] at h
 have h2b : (how == 2) = false := beq_eq_false_iff_ne.mpr h2
 by_cases h3 : how = 3
 rw [if_pos h3] at h
 have h3b : (how == 3) = true := beq_iff_eq.mpr h3
 clear h3
 obtain ⟨l2, hl2, h⟩ := Option.map_eq_some_iff.1 h
 replace h := congrArg some h
 have HL2 := aS hl2
 clear hl2
 obtain ⟨j, hj⟩ : ∃ j, wrap64 (i + (l2.length : Int)) = j := ⟨_, rfl⟩
 rw [hj] at h
 have hjw : IntKind.i64.wrap (i + (l2.length : Int)) = j := by first | exact hj | (simp only [q1e]; exact hj)
 unfold stepAt at h
 by_cases j0 : j < 0
 rw [if_pos (.inl j0)] at h
 obtain rfl := Option.some.inj h
 have j0b : decide (j < 0) = true := decide_eq_true j0
 clear h j0
 rotate_left
 have j0b : decide (j < 0) = false := decide_eq_false j0
 by_cases j1 : j ≥ (l.length : Int)
 rw [if_pos (.inr j1)] at h
 obtain rfl := Option.some.inj h
 have j1b : decide ((l.length : Int) ≤ j) = true := decide_eq_true j1
 clear h j0 j1
 rotate_left
 rw [if_neg (by omega)] at h
 obtain rfl := Option.some.inj h
 have j1b : decide ((l.length : Int) ≤ j) = false := decide_eq_false j1
 have p7 : 0 ≤ j := by omega
 have q7 : j < (l.length : Int) := by omega
 have P7 := aS p7
 have Q7 := aS q7
 replace p7 := eq_true p7
 replace q7 := eq_true q7
 clear h j0 j1
 focus (go_enter Tryd.func19, Tryd.ntmps19; go_wp2_with (first | ((with_reducible refine q15 (N := 3) rfl ?_); refine q0y ?hg (N := 3) ?hd (cs := #[.slice (some adn) l0.length c0, .bool a1]) (t := 24) ?hr ?_; (case hd => rfl); (case hg => rfl); (case hr => first | (go_simp; done) | (go_simp; rfl)); intro gb hg wb hbox hb; have n0_ := aS (q09 (by repeat (first | exact HB.out | apply bA | apply bN | apply bD)) hb); have BK := aS hbox; have hcz0 : wb.cell? ⟨gb, 0, none⟩ = some (.slice (some adn) l0.length c0) := (q02 BK.out 0).trans rfl; have hcz1 : wb.cell? ⟨gb, 1, none⟩ = some (.bool a1) := (q02 BK.out 1).trans rfl; clear HB; have HB := n0_; clear n0_ hg hbox hb) | (go_at_call 25; (with_reducible refine (q0c.calls k (some adn) c0 l0 a1 0 l _ (Kd.C_below HR.out (by repeat (first | exact HB.out | apply bA | apply bN | apply bD))) HC.out HL.out).mono ?_); rintro e wl ⟨vl, rfl, ho, hb⟩; have n0_ := aS (q09 (by repeat (first | exact HB.out | apply bA | apply bN | apply bD)) hb); obtain ⟨Al, cl, eo⟩ := Kd.R_slice ho; subst eo; have HLC := aS (Kd.R_reads' ho).2.2; have HLK := aS (Kd.R_reads' ho).2.1; clear HB; have HB := n0_; clear n0_ ho; have BKn := aS (q0g.blk BK.out hb); clear BK; have BK := BKn; clear BKn; clear hcz0 hcz1; have hcz0 : wl.cell? ⟨gb, 0, none⟩ = some (.slice (some adn) l0.length c0) := (q02 BK.out 0).trans rfl; have hcz1 : wl.cell? ⟨gb, 1, none⟩ = some (.bool a1) := (q02 BK.out 1).trans rfl; clear hb; replace hn4 := (HB.out.cell (World.block_lt_of_cell? w _ hn4)).trans hn4; replace hn5 := (HB.out.cell (World.block_lt_of_cell? w _ hn5)).trans hn5; replace hp5 := (HB.out.cell (World.block_lt_of_cell? w _ hp5)).trans hp5; obtain ⟨ad7, e7, hx7⟩ := Kd.at_int HLC.out j P7.out Q7.out; subst e7) | (go_at_call 74; (with_reducible refine (q08.calls k (some ad7) cl l n i _ (by repeat (first | (with_reducible exact HLC.out) | (with_reducible refine Kd.C_drewN ?_ _) | (with_reducible refine Kd.C_drew ?_) | (with_reducible refine Kd.C_alloc ?_ _))) HLK.out HI.out).mono ?_); rintro e w' ⟨rfl, ⟨nd, rfl⟩⟩) | (go_at_call 74; (with_reducible refine (q08.calls k Ak ck ks n kk _ (Kd.C_below HKC.out (by repeat (first | exact HB.out | apply bA | apply bN | apply bD))) HKL.out HK.out).mono ?_); rintro e w' ⟨rfl, ⟨nd, rfl⟩⟩) | (go_at_call 25; (with_reducible refine (q0c.calls k (some adn) c0 l0 a1 n l2 _ (Kd.C_below HR.out (by repeat (first | exact HB.out | apply bA | apply bN | apply bD))) HC.out HL2.out).mono ?_); rintro e w5 ⟨v5, rfl, ho, hb⟩; obtain ⟨Al2, cl2, eo⟩ := Kd.R_slice ho; subst eo; have n0_ := aS (q09 (by repeat (first | exact HB.out | apply bA | apply bN | apply bD)) hb); clear ho; replace hx7 := (hb.cell (World.block_lt_of_cell? _ _ hx7)).trans hx7; clear HB; have HB := n0_; clear n0_ hb)); (repeat (go_quiet (fail); try go_wp2)); go_ret; exact ⟨rfl, (by repeat (first | exact HB.out | apply bA | apply bN | apply bD))⟩)
 rw [if_neg h3] at h
 have h3b : (how == 3) = false := beq_eq_false_iff_ne.mpr h3
 by_cases h4 : how = 4
 rw [if_pos h4] at h
 have h4b : (how == 4) = true := beq_iff_eq.mpr h4
 clear h4
 by_cases z : ((q05 l0 n).f5.length : Int) = 0
 rw [if_pos z] at h
 obtain rfl := Option.some.inj h
 have zb : (((q05 l0 n).f5.length : Int) == 0) = true := beq_iff_eq.mpr z
 clear h z
 rotate_left
 rw [if_neg z] at h
 obtain rfl := Option.some.inj h
 have zb : (((q05 l0 n).f5.length : Int) == 0) = false := beq_eq_false_iff_ne.mpr z
 obtain ⟨j, hj⟩ : ∃ j : Int, 0 = j := ⟨_, rfl⟩
 have p8 : 0 ≤ j := by omega
 have q8 : j < ((q05 l0 n).f5.length : Int) := by omega
 obtain ⟨ad8, e8, hx8⟩ := Kd.at_int HNC.out j p8 q8
 have q8b : 0 < (q05 l0 n).f5.length := by omega
 subst hj
 rw [show ((0 : Int)).toNat = 0 from rfl, show ad8.add 0 = ad8 from rfl] at hx8
 subst e8
 replace p8 := eq_true p8
 replace q8 := eq_true q8
 clear h z
 focus (go_enter Tryd.func19, Tryd.ntmps19; go_wp2_with (first | ((with_reducible refine q15 (N := 3) rfl ?_); refine q0y ?hg (N := 3) ?hd (cs := #[.slice (some adn) l0.length c0, .bool a1]) (t := 24) ?hr ?_; (case hd => rfl); (case hg => rfl); (case hr => first | (go_simp; done) | (go_simp; rfl)); intro gb hg wb hbox hb; have n0_ := aS (q09 (by repeat (first | exact HB.out | apply bA | apply bN | apply bD)) hb); have BK := aS hbox; have hcz0 : wb.cell? ⟨gb, 0, none⟩ = some (.slice (some adn) l0.length c0) := (q02 BK.out 0).trans rfl; have hcz1 : wb.cell? ⟨gb, 1, none⟩ = some (.bool a1) := (q02 BK.out 1).trans rfl; clear HB; have HB := n0_; clear n0_ hg hbox hb) | (go_at_call 25; (with_reducible refine (q0c.calls k (some adn) c0 l0 a1 0 l _ (Kd.C_below HR.out (by repeat (first | exact HB.out | apply bA | apply bN | apply bD))) HC.out HL.out).mono ?_); rintro e wl ⟨vl, rfl, ho, hb⟩; have n0_ := aS (q09 (by repeat (first | exact HB.out | apply bA | apply bN | apply bD)) hb); obtain ⟨Al, cl, eo⟩ := Kd.R_slice ho; subst eo; have HLC := aS (Kd.R_reads' ho).2.2; have HLK := aS (Kd.R_reads' ho).2.1; clear HB; have HB := n0_; clear n0_ ho; have BKn := aS (q0g.blk BK.out hb); clear BK; have BK := BKn; clear BKn; clear hcz0 hcz1; have hcz0 : wl.cell? ⟨gb, 0, none⟩ = some (.slice (some adn) l0.length c0) := (q02 BK.out 0).trans rfl; have hcz1 : wl.cell? ⟨gb, 1, none⟩ = some (.bool a1) := (q02 BK.out 1).trans rfl; clear hb; replace hn4 := (HB.out.cell (World.block_lt_of_cell? w _ hn4)).trans hn4; replace hn5 := (HB.out.cell (World.block_lt_of_cell? w _ hn5)).trans hn5; replace hp5 := (HB.out.cell (World.block_lt_of_cell? w _ hp5)).trans hp5; replace hx8 := (HB.out.cell (World.block_lt_of_cell? w _ hx8)).trans hx8) | (go_at_call 74; (with_reducible refine (q08.calls k Al cl l n i _ (by repeat (first | (with_reducible exact HLC.out) | (with_reducible refine Kd.C_drewN ?_ _) | (with_reducible refine Kd.C_drew ?_) | (with_reducible refine Kd.C_alloc ?_ _))) HLK.out HI.out).mono ?_); rintro e w' ⟨rfl, ⟨nd, rfl⟩⟩) | (go_at_call 74; (with_reducible refine (q08.calls k Ak ck ks n kk _ (Kd.C_below HKC.out (by repeat (first | exact HB.out | apply bA | apply bN | apply bD))) HKL.out HK.out).mono ?_); rintro e w' ⟨rfl, ⟨nd, rfl⟩⟩)); (repeat (go_quiet (fail); try go_wp2)); go_ret; exact ⟨rfl, (by repeat (first | exact HB.out | apply bA | apply bN | apply bD))⟩)
 rw [if_neg h4] at h
 have h4b : (how == 4) = false := beq_eq_false_iff_ne.mpr h4
 by_cases h5 : how = 5
 rw [if_pos h5] at h
 have h5b : (how == 5) = true := beq_iff_eq.mpr h5
 clear h5
 by_cases z : ((q05 l0 n).f5.length : Int) = 0
 rw [if_pos z] at h
 obtain rfl := Option.some.inj h
 have zb : (((q05 l0 n).f5.length : Int) == 0) = true := beq_iff_eq.mpr z
 clear h z
 rotate_left
 rw [if_neg z] at h
 obtain rfl := Option.some.inj h
 have zb : (((q05 l0 n).f5.length : Int) == 0) = false := beq_eq_false_iff_ne.mpr z
 obtain ⟨j, hj⟩ : ∃ j : Int, (((q05 l0 n).f5.length : Int) - 1) = j := ⟨_, rfl⟩
 have p8 : 0 ≤ j := by omega
 have q8 : j < ((q05 l0 n).f5.length : Int) := by omega
 obtain ⟨ad8, e8, hx8⟩ := Kd.at_int HNC.out j p8 q8
 have hjw : IntKind.i64.wrap (((q05 l0 n).f5.length : Int) - 1) = j := by have := HN5.out; rw [← hj]; (try simp only [q1e]); unfold wrap64; omega
 have hjx : wrap64 (((q05 l0 n).f5.length : Int) - 1) = j := by have := HN5.out; rw [← hj]; unfold wrap64; omega
 rw [hj]
 clear hj
 subst e8
 replace p8 := eq_true p8
 replace q8 := eq_true q8
 clear h z
 focus (go_enter Tryd.func19, Tryd.ntmps19; go_wp2_with (first | ((with_reducible refine q15 (N := 3) rfl ?_); refine q0y ?hg (N := 3) ?hd (cs := #[.slice (some adn) l0.length c0, .bool a1]) (t := 24) ?hr ?_; (case hd => rfl); (case hg => rfl); (case hr => first | (go_simp; done) | (go_simp; rfl)); intro gb hg wb hbox hb; have n0_ := aS (q09 (by repeat (first | exact HB.out | apply bA | apply bN | apply bD)) hb); have BK := aS hbox; have hcz0 : wb.cell? ⟨gb, 0, none⟩ = some (.slice (some adn) l0.length c0) := (q02 BK.out 0).trans rfl; have hcz1 : wb.cell? ⟨gb, 1, none⟩ = some (.bool a1) := (q02 BK.out 1).trans rfl; clear HB; have HB := n0_; clear n0_ hg hbox hb) | (go_at_call 25; (with_reducible refine (q0c.calls k (some adn) c0 l0 a1 0 l _ (Kd.C_below HR.out (by repeat (first | exact HB.out | apply bA | apply bN | apply bD))) HC.out HL.out).mono ?_); rintro e wl ⟨vl, rfl, ho, hb⟩; have n0_ := aS (q09 (by repeat (first | exact HB.out | apply bA | apply bN | apply bD)) hb); obtain ⟨Al, cl, eo⟩ := Kd.R_slice ho; subst eo; have HLC := aS (Kd.R_reads' ho).2.2; have HLK := aS (Kd.R_reads' ho).2.1; clear HB; have HB := n0_; clear n0_ ho; have BKn := aS (q0g.blk BK.out hb); clear BK; have BK := BKn; clear BKn; clear hcz0 hcz1; have hcz0 : wl.cell? ⟨gb, 0, none⟩ = some (.slice (some adn) l0.length c0) := (q02 BK.out 0).trans rfl; have hcz1 : wl.cell? ⟨gb, 1, none⟩ = some (.bool a1) := (q02 BK.out 1).trans rfl; clear hb; replace hn4 := (HB.out.cell (World.block_lt_of_cell? w _ hn4)).trans hn4; replace hn5 := (HB.out.cell (World.block_lt_of_cell? w _ hn5)).trans hn5; replace hp5 := (HB.out.cell (World.block_lt_of_cell? w _ hp5)).trans hp5; replace hx8 := (HB.out.cell (World.block_lt_of_cell? w _ hx8)).trans hx8) | (go_at_call 74; (with_reducible refine (q08.calls k Al cl l n i _ (by repeat (first | (with_reducible exact HLC.out) | (with_reducible refine Kd.C_drewN ?_ _) | (with_reducible refine Kd.C_drew ?_) | (with_reducible refine Kd.C_alloc ?_ _))) HLK.out HI.out).mono ?_); rintro e w' ⟨rfl, ⟨nd, rfl⟩⟩) | (go_at_call 74; (with_reducible refine (q08.calls k Ak ck ks n kk _ (Kd.C_below HKC.out (by repeat (first | exact HB.out | apply bA | apply bN | apply bD))) HKL.out HK.out).mono ?_); rintro e w' ⟨rfl, ⟨nd, rfl⟩⟩)); (repeat (go_quiet (fail); try go_wp2)); go_ret; exact ⟨rfl, (by repeat (first | exact HB.out | apply bA | apply bN | apply bD))⟩)
 rw [if_neg h5] at h
 have h5b : (how == 5) = false := beq_eq_false_iff_ne.mpr h5
 by_cases h6 : how = 6
 rw [if_pos h6] at h
 have h6b : (how == 6) = true := beq_iff_eq.mpr h6
 have h67 : (how == 7) = false := beq_eq_false_iff_ne.mpr (by omega)
 clear h6
 obtain ⟨j1, hj1⟩ : ∃ j1, wrap64 (kk + 1) = j1 := ⟨_, rfl⟩
 rw [hj1] at h
 have hj1w : IntKind.i64.wrap (kk + 1) = j1 := by first | exact hj1 | (simp only [q1e]; exact hj1)
 obtain ⟨j, hj⟩ : ∃ j, j1 = j := ⟨_, rfl⟩
 subst hj
 unfold stepB at h
 by_cases j0 : j1 < 0
 rw [if_pos (.inr (.inl j0))] at h
 obtain rfl := Option.some.inj h
 have j0b : decide (j1 < 0) = true := decide_eq_true j0
 clear h j0
 rotate_left
 have j0b : decide (j1 < 0) = false := decide_eq_false j0
 by_cases j1x : j1 ≥ (ks.length : Int)
 rw [if_pos (.inr (.inr j1x))] at h
 obtain rfl := Option.some.inj h
 have j1b : decide ((ks.length : Int) ≤ j1) = true := decide_eq_true j1x
 clear h j0 j1x
 rotate_left
 rw [if_neg (by have := HP0.out; omega)] at h
 obtain rfl := Option.some.inj h
 have j1b : decide ((ks.length : Int) ≤ j1) = false := decide_eq_false j1x
 have p8 : 0 ≤ j1 := by omega
 have q8 : j1 < (ks.length : Int) := by omega
 obtain ⟨ad8, e8, hx8⟩ := Kd.at_int HKC.out j1 p8 q8
 subst e8
 replace p8 := eq_true p8
 replace q8 := eq_true q8
 clear h j0 j1x
 focus (go_enter Tryd.func19, Tryd.ntmps19; go_wp2_with (first | ((with_reducible refine q15 (N := 3) rfl ?_); refine q0y ?hg (N := 3) ?hd (cs := #[.slice (some adn) l0.length c0, .bool a1]) (t := 24) ?hr ?_; (case hd => rfl); (case hg => rfl); (case hr => first | (go_simp; done) | (go_simp; rfl)); intro gb hg wb hbox hb; have n0_ := aS (q09 (by repeat (first | exact HB.out | apply bA | apply bN | apply bD)) hb); have BK := aS hbox; have hcz0 : wb.cell? ⟨gb, 0, none⟩ = some (.slice (some adn) l0.length c0) := (q02 BK.out 0).trans rfl; have hcz1 : wb.cell? ⟨gb, 1, none⟩ = some (.bool a1) := (q02 BK.out 1).trans rfl; clear HB; have HB := n0_; clear n0_ hg hbox hb) | (go_at_call 25; (with_reducible refine (q0c.calls k (some adn) c0 l0 a1 0 l _ (Kd.C_below HR.out (by repeat (first | exact HB.out | apply bA | apply bN | apply bD))) HC.out HL.out).mono ?_); rintro e wl ⟨vl, rfl, ho, hb⟩; have n0_ := aS (q09 (by repeat (first | exact HB.out | apply bA | apply bN | apply bD)) hb); obtain ⟨Al, cl, eo⟩ := Kd.R_slice ho; subst eo; have HLC := aS (Kd.R_reads' ho).2.2; have HLK := aS (Kd.R_reads' ho).2.1; clear HB; have HB := n0_; clear n0_ ho; have BKn := aS (q0g.blk BK.out hb); clear BK; have BK := BKn; clear BKn; clear hcz0 hcz1; have hcz0 : wl.cell? ⟨gb, 0, none⟩ = some (.slice (some adn) l0.length c0) := (q02 BK.out 0).trans rfl; have hcz1 : wl.cell? ⟨gb, 1, none⟩ = some (.bool a1) := (q02 BK.out 1).trans rfl; clear hb; replace hn4 := (HB.out.cell (World.block_lt_of_cell? w _ hn4)).trans hn4; replace hn5 := (HB.out.cell (World.block_lt_of_cell? w _ hn5)).trans hn5; replace hp5 := (HB.out.cell (World.block_lt_of_cell? w _ hp5)).trans hp5; replace hx8 := (HB.out.cell (World.block_lt_of_cell? w _ hx8)).trans hx8) | (go_at_call 74; (with_reducible refine (q08.calls k Al cl l n i _ (by repeat (first | (with_reducible exact HLC.out) | (with_reducible refine Kd.C_drewN ?_ _) | (with_reducible refine Kd.C_drew ?_) | (with_reducible refine Kd.C_alloc ?_ _))) HLK.out HI.out).mono ?_); rintro e w' ⟨rfl, ⟨nd, rfl⟩⟩) | (go_at_call 74; (with_reducible refine (q08.calls k (some ad8) ck ks n kk _ (Kd.C_below HKC.out (by repeat (first | exact HB.out | apply bA | apply bN | apply bD))) HKL.out HK.out).mono ?_); rintro e w' ⟨rfl, ⟨nd, rfl⟩⟩)); (repeat (go_quiet (fail); try go_wp2)); go_ret; exact ⟨rfl, (by repeat (first | exact HB.out | apply bA | apply bN | apply bD))⟩)
 rw [if_neg h6] at h
 have h6b : (how == 6) = false := beq_eq_false_iff_ne.mpr h6
 by_cases h7 : how = 7
 rw [if_pos h7] at h
 have h7b : (how == 7) = true := beq_iff_eq.mpr h7
 clear h7
 obtain ⟨j1, hj1⟩ : ∃ j1, wrap64 (kk + 1) = j1 := ⟨_, rfl⟩
 rw [hj1] at h
 have hj1w : IntKind.i64.wrap (kk + 1) = j1 := by first | exact hj1 | (simp only [q1e]; exact hj1)
 obtain ⟨j, hj⟩ : ∃ j, wrap64 (j1 - 2) = j := ⟨_, rfl⟩
 rw [hj] at h
 have hjw : IntKind.i64.wrap (j1 - 2) = j := by first | exact hj | (simp only [q1e]; exact hj)
 unfold stepB at h
 by_cases j0 : j < 0
 rw [if_pos (.inr (.inl j0))] at h
 obtain rfl := Option.some.inj h
 have j0b : decide (j < 0) = true := decide_eq_true j0
 clear h j0
 rotate_left
 have j0b : decide (j < 0) = false := decide_eq_false j0
 by_cases j1x : j ≥ (ks.length : Int)
 rw [if_pos (.inr (.inr j1x))] at h
 obtain rfl := Option.some.inj h
 have j1b : decide ((ks.length : Int) ≤ j) = true := decide_eq_true j1x
 clear h j0 j1x
 rotate_left
 rw [if_neg (by have := HP0.out; omega)] at h
 obtain rfl := Option.some.inj h
 have j1b : decide ((ks.length : Int) ≤ j) = false := decide_eq_false j1x
 have p8 : 0 ≤ j := by omega
 have q8 : j < (ks.length : Int) := by omega
 obtain ⟨ad8, e8, hx8⟩ := Kd.at_int HKC.out j p8 q8
 subst e8
 replace p8 := eq_true p8
 replace q8 := eq_true q8
 clear h j0 j1x
 focus (go_enter Tryd.func19, Tryd.ntmps19; go_wp2_with (first | ((with_reducible refine q15 (N := 3) rfl ?_); refine q0y ?hg (N := 3) ?hd (cs := #[.slice (some adn) l0.length c0, .bool a1]) (t := 24) ?hr ?_; (case hd => rfl); (case hg => rfl); (case hr => first | (go_simp; done) | (go_simp; rfl)); intro gb hg wb hbox hb; have n0_ := aS (q09 (by repeat (first | exact HB.out | apply bA | apply bN | apply bD)) hb); have BK := aS hbox; have hcz0 : wb.cell? ⟨gb, 0, none⟩ = some (.slice (some adn) l0.length c0) := (q02 BK.out 0).trans rfl; have hcz1 : wb.cell? ⟨gb, 1, none⟩ = some (.bool a1) := (q02 BK.out 1).trans rfl; clear HB; have HB := n0_; clear n0_ hg hbox hb) | (go_at_call 25; (with_reducible refine (q0c.calls k (some adn) c0 l0 a1 0 l _ (Kd.C_below HR.out (by repeat (first | exact HB.out | apply bA | apply bN | apply bD))) HC.out HL.out).mono ?_); rintro e wl ⟨vl, rfl, ho, hb⟩; have n0_ := aS (q09 (by repeat (first | exact HB.out | apply bA | apply bN | apply bD)) hb); obtain ⟨Al, cl, eo⟩ := Kd.R_slice ho; subst eo; have HLC := aS (Kd.R_reads' ho).2.2; have HLK := aS (Kd.R_reads' ho).2.1; clear HB; have HB := n0_; clear n0_ ho; have BKn := aS (q0g.blk BK.out hb); clear BK; have BK := BKn; clear BKn; clear hcz0 hcz1; have hcz0 : wl.cell? ⟨gb, 0, none⟩ = some (.slice (some adn) l0.length c0) := (q02 BK.out 0).trans rfl; have hcz1 : wl.cell? ⟨gb, 1, none⟩ = some (.bool a1) := (q02 BK.out 1).trans rfl; clear hb; replace hn4 := (HB.out.cell (World.block_lt_of_cell? w _ hn4)).trans hn4; replace hn5 := (HB.out.cell (World.block_lt_of_cell? w _ hn5)).trans hn5; replace hp5 := (HB.out.cell (World.block_lt_of_cell? w _ hp5)).trans hp5; replace hx8 := (HB.out.cell (World.block_lt_of_cell? w _ hx8)).trans hx8) | (go_at_call 74; (with_reducible refine (q08.calls k Al cl l n i _ (by repeat (first | (with_reducible exact HLC.out) | (with_reducible refine Kd.C_drewN ?_ _) | (with_reducible refine Kd.C_drew ?_) | (with_reducible refine Kd.C_alloc ?_ _))) HLK.out HI.out).mono ?_); rintro e w' ⟨rfl, ⟨nd, rfl⟩⟩) | (go_at_call 74; (with_reducible refine (q08.calls k (some ad8) ck ks n kk _ (Kd.C_below HKC.out (by repeat (first | exact HB.out | apply bA | apply bN | apply bD))) HKL.out HK.out).mono ?_); rintro e w' ⟨rfl, ⟨nd, rfl⟩⟩)); (repeat (go_quiet (fail); try go_wp2)); go_ret; exact ⟨rfl, (by repeat (first | exact HB.out | apply bA | apply bN | apply bD))⟩)
 rw [if_neg h7] at h
 have h7b : (how == 7) = false := beq_eq_false_iff_ne.mpr h7
 obtain rfl := Option.some.inj h
 clear h h1 h2 h3 h4 h5 h6 h7
 all_goals (go_enter Tryd.func19, Tryd.ntmps19; go_wp2_with (first | ((with_reducible refine q15 (N := 3) rfl ?_); refine q0y ?hg (N := 3) ?hd (cs := #[.slice (some adn) l0.length c0, .bool a1]) (t := 24) ?hr ?_; (case hd => rfl); (case hg => rfl); (case hr => first | (go_simp; done) | (go_simp; rfl)); intro gb hg wb hbox hb; have n0_ := aS (q09 (by repeat (first | exact HB.out | apply bA | apply bN | apply bD)) hb); have BK := aS hbox; have hcz0 : wb.cell? ⟨gb, 0, none⟩ = some (.slice (some adn) l0.length c0) := (q02 BK.out 0).trans rfl; have hcz1 : wb.cell? ⟨gb, 1, none⟩ = some (.bool a1) := (q02 BK.out 1).trans rfl; clear HB; have HB := n0_; clear n0_ hg hbox hb) | (go_at_call 25; (with_reducible refine (q0c.calls k (some adn) c0 l0 a1 0 l _ (Kd.C_below HR.out (by repeat (first | exact HB.out | apply bA | apply bN | apply bD))) HC.out HL.out).mono ?_); rintro e wl ⟨vl, rfl, ho, hb⟩; have n0_ := aS (q09 (by repeat (first | exact HB.out | apply bA | apply bN | apply bD)) hb); obtain ⟨Al, cl, eo⟩ := Kd.R_slice ho; subst eo; have HLC := aS (Kd.R_reads' ho).2.2; have HLK := aS (Kd.R_reads' ho).2.1; clear HB; have HB := n0_; clear n0_ ho; have BKn := aS (q0g.blk BK.out hb); clear BK; have BK := BKn; clear BKn; clear hcz0 hcz1; have hcz0 : wl.cell? ⟨gb, 0, none⟩ = some (.slice (some adn) l0.length c0) := (q02 BK.out 0).trans rfl; have hcz1 : wl.cell? ⟨gb, 1, none⟩ = some (.bool a1) := (q02 BK.out 1).trans rfl; clear hb; replace hn4 := (HB.out.cell (World.block_lt_of_cell? w _ hn4)).trans hn4; replace hn5 := (HB.out.cell (World.block_lt_of_cell? w _ hn5)).trans hn5; replace hp5 := (HB.out.cell (World.block_lt_of_cell? w _ hp5)).trans hp5) | (go_at_call 74; (with_reducible refine (q08.calls k Al cl l n i _ (by repeat (first | (with_reducible exact HLC.out) | (with_reducible refine Kd.C_drewN ?_ _) | (with_reducible refine Kd.C_drew ?_) | (with_reducible refine Kd.C_alloc ?_ _))) HLK.out HI.out).mono ?_); rintro e w' ⟨rfl, ⟨nd, rfl⟩⟩) | (go_at_call 74; (with_reducible refine (q08.calls k Ak ck ks n kk _ (Kd.C_below HKC.out (by repeat (first | exact HB.out | apply bA | apply bN | apply bD))) HKL.out HK.out).mono ?_); rintro e w' ⟨rfl, ⟨nd, rfl⟩⟩) | (go_at_call 25; (with_reducible refine (q0c.calls k (some adn) c0 l0 a1 n l2 _ (Kd.C_below HR.out (by repeat (first | exact HB.out | apply bA | apply bN | apply bD))) HC.out HL2.out).mono ?_); rintro e w5 ⟨v5, rfl, ho, hb⟩; obtain ⟨Al2, cl2, eo⟩ := Kd.R_slice ho; subst eo; have n0_ := aS (q09 (by repeat (first | exact HB.out | apply bA | apply bN | apply bD)) hb); clear ho;  clear HB; have HB := n0_; clear n0_ hb)); (repeat (go_quiet (fail); try go_wp2)); go_ret; exact ⟨rfl, (by repeat (first | exact HB.out | apply bA | apply bN | apply bD))⟩)
set_option maxHeartbeats 16000000 in
set_option maxRecDepth 100000 in
theorem q0n.neg (k : Nat) (A0 : Option Addr) (c0 : Nat) (l0 : List S43) (a1 : Bool) (n how r : Int) (l : List Int) (i : Int) (w : World) (hr0 : Kd.C k43 w A0 l0.length l0) (hc0 : l0.length ≤ c0) (hl : q0c.f k l0 a1 0 = some l) (hi : q08.f k l n = some i)
 (n0 : 0 ≤ n) (n1 : n < (l0.length : Int)) (n5 : (q05 l0 n).f5.length ≤ 4611686018427387904) (p : Int) (hpe : (q05 l0 n).f4 = p) (p0 : p < 0) (h : q2r k l0 a1 n how l i 0 p [] = some r) :
 Calls Tryd.prog 19 #[.agg #[.slice A0 l0.length c0, .bool a1], .int .i64 n, .int .i64 how] w fun e w' => e = .returned (.int .i64 r) ∧ Below w.heap.size w w' := by
 have hu24 := Tryd.underlying24
 have hu43 := Tryd.underlying43
 have HR := aS hr0
 have HC := aS hc0
 have HL := aS hl
 have HI := aS hi
 have HN5 := aS n5
 have HB := aS (Below.refl w.heap.size w)
 clear hr0 hc0 hl hi n5
 obtain ⟨adn, An2, cn2, An, cn, en, hn0, hn1, hn2, hn3, hn4, hn5, hln2, hin2, hln5, hin5⟩ := q1j HR.out n n0 n1
 subst en
 have HNC := aS hin5
 have HNL := aS hln5
 clear hn0 hn1 hn2 hn3 hln2 hin2 hln5 hin5
 have HP0 := aS p0
 rw [hpe] at hn4
 have p0b : decide (0 ≤ p) = false := decide_eq_false (by omega)
 have p0c : decide (p < 0) = true := decide_eq_true p0
 clear p0 hpe
 replace n0 := eq_true n0
 replace n1 := eq_true n1
 unfold q2r at h
 by_cases h1 : how = 1
 rw [if_pos h1] at h
 have h1b : (how == 1) = true := beq_iff_eq.mpr h1
 clear h1
 obtain ⟨j, hj⟩ : ∃ j, wrap64 (i + 1) = j := ⟨_, rfl⟩
 rw [hj] at h
 have hjw : IntKind.i64.wrap (i + 1) = j := by first | exact hj | (simp only [q1e]; exact hj)
 unfold stepAt at h
 by_cases j0 : j < 0
 rw [if_pos (.inl j0)] at h
 obtain rfl := Option.some.inj h
 have j0b : decide (j < 0) = true := decide_eq_true j0
 clear h j0
 rotate_left
 have j0b : decide (j < 0) = false := decide_eq_false j0
 by_cases j1 : j ≥ (l.length : Int)
 rw [if_pos (.inr j1)] at h
 obtain rfl := Option.some.inj h
 have j1b : decide ((l.length : Int) ≤ j) = true := decide_eq_true j1
 clear h j0 j1
 rotate_left
 rw [if_neg (by omega)] at h
 obtain rfl := Option.some.inj h
 have j1b : decide ((l.length : Int) ≤ j) = false := decide_eq_false j1
 have p7 : 0 ≤ j := by omega
 have q7 : j < (l.length : Int) := by omega
 have P7 := aS p7
 have Q7 := aS q7
 replace p7 := eq_true p7
 replace q7 := eq_true q7
 clear h j0 j1
 focus (go_enter Tryd.func19, Tryd.ntmps19; go_wp2_with (first | ((with_reducible refine q15 (N := 3) rfl ?_); refine q0y ?hg (N := 3) ?hd (cs := #[.slice (some adn) l0.length c0, .bool a1]) (t := 24) ?hr ?_; (case hd => rfl); (case hg => rfl); (case hr => first | (go_simp; done) | (go_simp; rfl)); intro gb hg wb hbox hb; have n0_ := aS (q09 (by repeat (first | exact HB.out | apply bA | apply bN | apply bD)) hb); have BK := aS hbox; have hcz0 : wb.cell? ⟨gb, 0, none⟩ = some (.slice (some adn) l0.length c0) := (q02 BK.out 0).trans rfl; have hcz1 : wb.cell? ⟨gb, 1, none⟩ = some (.bool a1) := (q02 BK.out 1).trans rfl; clear HB; have HB := n0_; clear n0_ hg hbox hb) | (go_at_call 25; (with_reducible refine (q0c.calls k (some adn) c0 l0 a1 0 l _ (Kd.C_below HR.out (by repeat (first | exact HB.out | apply bA | apply bN | apply bD))) HC.out HL.out).mono ?_); rintro e wl ⟨vl, rfl, ho, hb⟩; have n0_ := aS (q09 (by repeat (first | exact HB.out | apply bA | apply bN | apply bD)) hb); obtain ⟨Al, cl, eo⟩ := Kd.R_slice ho; subst eo; have HLC := aS (Kd.R_reads' ho).2.2; have HLK := aS (Kd.R_reads' ho).2.1; clear HB; have HB := n0_; clear n0_ ho; have BKn := aS (q0g.blk BK.out hb); clear BK; have BK := BKn; clear BKn; clear hcz0 hcz1; have hcz0 : wl.cell? ⟨gb, 0, none⟩ = some (.slice (some adn) l0.length c0) := (q02 BK.out 0).trans rfl; have hcz1 : wl.cell? ⟨gb, 1, none⟩ = some (.bool a1) := (q02 BK.out 1).trans rfl; clear hb; replace hn4 := (HB.out.cell (World.block_lt_of_cell? w _ hn4)).trans hn4; replace hn5 := (HB.out.cell (World.block_lt_of_cell? w _ hn5)).trans hn5; obtain ⟨ad7, e7, hx7⟩ := Kd.at_int HLC.out j P7.out Q7.out; subst e7) | (go_at_call 74; (with_reducible refine (q08.calls k (some ad7) cl l n i _ (by repeat (first | (with_reducible exact HLC.out) | (with_reducible refine Kd.C_drewN ?_ _) | (with_reducible refine Kd.C_drew ?_) | (with_reducible refine Kd.C_alloc ?_ _))) HLK.out HI.out).mono ?_); rintro e w' ⟨rfl, ⟨nd, rfl⟩⟩)); (repeat (go_quiet (fail); try go_wp2)); go_ret; exact ⟨rfl, (by repeat (first | exact HB.out | apply bA | apply bN | apply bD))⟩)
 rw [if_neg h1] at h
 have h1b : (how == 1) = false := beq_eq_false_iff_ne.mpr h1
 by_cases h2 : how = 2
 rw [if_pos h2] at h
 have h2b : (how == 2) = true := beq_iff_eq.mpr h2
 clear h2
 obtain ⟨j, hj⟩ : ∃ j, wrap64 (i - 1) = j := ⟨_, rfl⟩
 rw [hj] at h
 have hjw : IntKind.i64.wrap (i - 1) = j := by first | exact hj | (simp only [q1e]; exact hj)
 unfold stepAt at h
 by_cases j0 : j < 0
 rw [if_pos (.inl j0)] at h
 obtain rfl := Option.some.inj h
 have j0b : decide (j < 0) = true := decide_eq_true j0
 clear h j0
 rotate_left
 have j0b : decide (j < 0) = false := decide_eq_false j0
 by_cases j1 : j ≥ (l.length : Int)
 rw [if_pos (.inr j1)] at h
 obtain rfl := Option.some.inj h
 have j1b : decide ((l.length : Int) ≤ j) = true := decide_eq_true j1
 clear h j0 j1
 rotate_left
 rw [if_neg (by omega)] at h
 obtain rfl := Option.some.inj h
 have j1b : decide ((l.length : Int) ≤ j) = false := decide_eq_false j1
 have p7 : 0 ≤ j := by omega
 have q7 : j < (l.length : Int) := by omega
 have P7 := aS p7
 have Q7 := aS q7
 replace p7 := eq_true p7
 replace q7 := eq_true q7
 clear h j0 j1
 focus (go_enter Tryd.func19, Tryd.ntmps19; go_wp2_with (first | ((with_reducible refine q15 (N := 3) rfl ?_); refine q0y ?hg (N := 3) ?hd (cs := #[.slice (some adn) l0.length c0, .bool a1]) (t := 24) ?hr ?_; (case hd => rfl); (case hg => rfl); (case hr => first | (go_simp; done) | (go_simp; rfl)); intro gb hg wb hbox hb; have n0_ := aS (q09 (by repeat (first | exact HB.out | apply bA | apply bN | apply bD)) hb); have BK := aS hbox; have hcz0 : wb.cell? ⟨gb, 0, none⟩ = some (.slice (some adn) l0.length c0) := (q02 BK.out 0).trans rfl; have hcz1 : wb.cell? ⟨gb, 1, none⟩ = some (.bool a1) := (q02 BK.out 1).trans rfl; clear HB; have HB := n0_; clear n0_ hg hbox hb) | (go_at_call 25; (with_reducible refine (q0c.calls k (some adn) c0 l0 a1 0 l _ (Kd.C_below HR.out (by repeat (first | exact HB.out | apply bA | apply bN | apply bD))) HC.out HL.out).mono ?_); rintro e wl ⟨vl, rfl, ho, hb⟩; have n0_ := aS (q09 (by repeat (first | exact HB.out | apply bA | apply bN | apply bD)) hb); obtain ⟨Al, cl, eo⟩ := Kd.R_slice ho; subst eo; have HLC := aS (Kd.R_reads' ho).2.2; have HLK := aS (Kd.R_reads' ho).2.1; clear HB; have HB := n0_; clear n0_ ho; have BKn := aS (q0g.blk BK.out hb); clear BK; have BK := BKn; clear BKn; clear hcz0 hcz1; have hcz0 : wl.cell? ⟨gb, 0, none⟩ = some (.slice (some adn) l0.length c0) := (q02 BK.out 0).trans rfl; have hcz1 : wl.cell? ⟨gb, 1, none⟩ = some (.bool a1) := (q02 BK.out 1).trans rfl; clear hb; replace hn4 := (HB.out.cell (World.block_lt_of_cell? w _ hn4)).trans hn4; replace hn5 := (HB.out.cell (World.block_lt_of_cell? w _ hn5)).trans hn5; obtain ⟨ad7, e7, hx7⟩ := Kd.at_int HLC.out j P7.out Q7.out; subst e7) | (go_at_call 74; (with_reducible refine (q08.calls k (some ad7) cl l n i _ (by repeat (first | (with_reducible exact HLC.out) | (with_reducible refine Kd.C_drewN ?_ _) | (with_reducible refine Kd.C_drew ?_) | (with_reducible refine Kd.C_alloc ?_ _))) HLK.out HI.out).mono ?_); rintro e w' ⟨rfl, ⟨nd, rfl⟩⟩)); (repeat (go_quiet (fail); try go_wp2)); go_ret; exact ⟨rfl, (by repeat (first | exact HB.out | apply bA | apply bN | apply bD))⟩)
 rw [if_neg h2] at h
 have h2b : (how == 2) = false := beq_eq_false_iff_ne.mpr h2
 by_cases h3 : how = 3
 rw [if_pos h3] at h
 have h3b : (how == 3) = true := beq_iff_eq.mpr h3
 clear h3
 obtain ⟨l2, hl2, h⟩ := Option.map_eq_some_iff.1 h
 replace h := congrArg some h
 have HL2 := aS hl2
 clear hl2
 obtain ⟨j, hj⟩ : ∃ j, wrap64 (i + (l2.length : Int)) = j := ⟨_, rfl⟩
 rw [hj] at h
 have hjw : IntKind.i64.wrap (i + (l2.length : Int)) = j := by first | exact hj | (simp only [q1e]; exact hj)
 unfold stepAt at h
 by_cases j0 : j < 0
 rw [if_pos (.inl j0)] at h
 obtain rfl := Option.some.inj h
 have j0b : decide (j < 0) = true := decide_eq_true j0
 clear h j0
 rotate_left
 have j0b : decide (j < 0) = false := decide_eq_false j0
 by_cases j1 : j ≥ (l.length : Int)
 rw [if_pos (.inr j1)] at h
 obtain rfl := Option.some.inj h
 have j1b : decide ((l.length : Int) ≤ j) = true := decide_eq_true j1
 clear h j0 j1
 rotate_left
 rw [if_neg (by omega)] at h
 obtain rfl := Option.some.inj h
 have j1b : decide ((l.length : Int) ≤ j) = false := decide_eq_false j1
 have p7 : 0 ≤ j := by omega
 have q7 : j < (l.length : Int) := by omega
 have P7 := aS p7
 have Q7 := aS q7
 replace p7 := eq_true p7
 replace q7 := eq_true q7
 clear h j0 j1
 focus (go_enter Tryd.func19, Tryd.ntmps19; go_wp2_with (first | ((with_reducible refine q15 (N := 3) rfl ?_); refine q0y ?hg (N := 3) ?hd (cs := #[.slice (some adn) l0.length c0, .bool a1]) (t := 24) ?hr ?_; (case hd => rfl); (case hg => rfl); (case hr => first | (go_simp; done) | (go_simp; rfl)); intro gb hg wb hbox hb; have n0_ := aS (q09 (by repeat (first | exact HB.out | apply bA | apply bN | apply bD)) hb); have BK := aS hbox; have hcz0 : wb.cell? ⟨gb, 0, none⟩ = some (.slice (some adn) l0.length c0) := (q02 BK.out 0).trans rfl; have hcz1 : wb.cell? ⟨gb, 1, none⟩ = some (.bool a1) := (q02 BK.out 1).trans rfl; clear HB; have HB := n0_; clear n0_ hg hbox hb) | (go_at_call 25; (with_reducible refine (q0c.calls k (some adn) c0 l0 a1 0 l _ (Kd.C_below HR.out (by repeat (first | exact HB.out | apply bA | apply bN | apply bD))) HC.out HL.out).mono ?_); rintro e wl ⟨vl, rfl, ho, hb⟩; have n0_ := aS (q09 (by repeat (first | exact HB.out | apply bA | apply bN | apply bD)) hb); obtain ⟨Al, cl, eo⟩ := Kd.R_slice ho; subst eo; have HLC := aS (Kd.R_reads' ho).2.2; have HLK := aS (Kd.R_reads' ho).2.1; clear HB; have HB := n0_; clear n0_ ho; have BKn := aS (q0g.blk BK.out hb); clear BK; have BK := BKn; clear BKn; clear hcz0 hcz1; have hcz0 : wl.cell? ⟨gb, 0, none⟩ = some (.slice (some adn) l0.length c0) := (q02 BK.out 0).trans rfl; have hcz1 : wl.cell? ⟨gb, 1, none⟩ = some (.bool a1) := (q02 BK.out 1).trans rfl; clear hb; replace hn4 := (HB.out.cell (World.block_lt_of_cell? w _ hn4)).trans hn4; replace hn5 := (HB.out.cell (World.block_lt_of_cell? w _ hn5)).trans hn5; obtain ⟨ad7, e7, hx7⟩ := Kd.at_int HLC.out j P7.out Q7.out; subst e7) | (go_at_call 74; (with_reducible refine (q08.calls k (some ad7) cl l n i _ (by repeat (first | (with_reducible exact HLC.out) | (with_reducible refine Kd.C_drewN ?_ _) | (with_reducible refine Kd.C_drew ?_) | (with_reducible refine Kd.C_alloc ?_ _))) HLK.out HI.out).mono ?_); rintro e w' ⟨rfl, ⟨nd, rfl⟩⟩) | (go_at_call 25; (with_reducible refine (q0c.calls k (some adn) c0 l0 a1 n l2 _ (Kd.C_below HR.out (by repeat (first | exact HB.out | apply bA | apply bN | apply bD))) HC.out HL2.out).mono ?_); rintro e w5 ⟨v5, rfl, ho, hb⟩; obtain ⟨Al2, cl2, eo⟩ := Kd.R_slice ho; subst eo; have n0_ := aS (q09 (by repeat (first | exact HB.out | apply bA | apply bN | apply bD)) hb); clear ho; replace hx7 := (hb.cell (World.block_lt_of_cell? _ _ hx7)).trans hx7; clear HB; have HB := n0_; clear n0_ hb)); (repeat (go_quiet (fail); try go_wp2)); go_ret; exact ⟨rfl, (by repeat (first | exact HB.out | apply bA | apply bN | apply bD))⟩)
 rw [if_neg h3] at h
 have h3b : (how == 3) = false := beq_eq_false_iff_ne.mpr h3
 by_cases h4 : how = 4
 rw [if_pos h4] at h
 have h4b : (how == 4) = true := beq_iff_eq.mpr h4
 clear h4
 by_cases z : ((q05 l0 n).f5.length : Int) = 0
 rw [if_pos z] at h
 obtain rfl := Option.some.inj h
 have zb : (((q05 l0 n).f5.length : Int) == 0) = true := beq_iff_eq.mpr z
 clear h z
 rotate_left
 rw [if_neg z] at h
 obtain rfl := Option.some.inj h
 have zb : (((q05 l0 n).f5.length : Int) == 0) = false := beq_eq_false_iff_ne.mpr z
 obtain ⟨j, hj⟩ : ∃ j : Int, 0 = j := ⟨_, rfl⟩
 have p8 : 0 ≤ j := by omega
 have q8 : j < ((q05 l0 n).f5.length : Int) := by omega
 obtain ⟨ad8, e8, hx8⟩ := Kd.at_int HNC.out j p8 q8
 have q8b : 0 < (q05 l0 n).f5.length := by omega
 subst hj
 rw [show ((0 : Int)).toNat = 0 from rfl, show ad8.add 0 = ad8 from rfl] at hx8
 subst e8
 replace p8 := eq_true p8
 replace q8 := eq_true q8
 clear h z
 focus (go_enter Tryd.func19, Tryd.ntmps19; go_wp2_with (first | ((with_reducible refine q15 (N := 3) rfl ?_); refine q0y ?hg (N := 3) ?hd (cs := #[.slice (some adn) l0.length c0, .bool a1]) (t := 24) ?hr ?_; (case hd => rfl); (case hg => rfl); (case hr => first | (go_simp; done) | (go_simp; rfl)); intro gb hg wb hbox hb; have n0_ := aS (q09 (by repeat (first | exact HB.out | apply bA | apply bN | apply bD)) hb); have BK := aS hbox; have hcz0 : wb.cell? ⟨gb, 0, none⟩ = some (.slice (some adn) l0.length c0) := (q02 BK.out 0).trans rfl; have hcz1 : wb.cell? ⟨gb, 1, none⟩ = some (.bool a1) := (q02 BK.out 1).trans rfl; clear HB; have HB := n0_; clear n0_ hg hbox hb) | (go_at_call 25; (with_reducible refine (q0c.calls k (some adn) c0 l0 a1 0 l _ (Kd.C_below HR.out (by repeat (first | exact HB.out | apply bA | apply bN | apply bD))) HC.out HL.out).mono ?_); rintro e wl ⟨vl, rfl, ho, hb⟩; have n0_ := aS (q09 (by repeat (first | exact HB.out | apply bA | apply bN | apply bD)) hb); obtain ⟨Al, cl, eo⟩ := Kd.R_slice ho; subst eo; have HLC := aS (Kd.R_reads' ho).2.2; have HLK := aS (Kd.R_reads' ho).2.1; clear HB; have HB := n0_; clear n0_ ho; have BKn := aS (q0g.blk BK.out hb); clear BK; have BK := BKn; clear BKn; clear hcz0 hcz1; have hcz0 : wl.cell? ⟨gb, 0, none⟩ = some (.slice (some adn) l0.length c0) := (q02 BK.out 0).trans rfl; have hcz1 : wl.cell? ⟨gb, 1, none⟩ = some (.bool a1) := (q02 BK.out 1).trans rfl; clear hb; replace hn4 := (HB.out.cell (World.block_lt_of_cell? w _ hn4)).trans hn4; replace hn5 := (HB.out.cell (World.block_lt_of_cell? w _ hn5)).trans hn5; replace hx8 := (HB.out.cell (World.block_lt_of_cell? w _ hx8)).trans hx8) | (go_at_call 74; (with_reducible refine (q08.calls k Al cl l n i _ (by repeat (first | (with_reducible exact HLC.out) | (with_reducible refine Kd.C_drewN ?_ _) | (with_reducible refine Kd.C_drew ?_) | (with_reducible refine Kd.C_alloc ?_ _))) HLK.out HI.out).mono ?_); rintro e w' ⟨rfl, ⟨nd, rfl⟩⟩)); (repeat (go_quiet (fail); try go_wp2)); go_ret; exact ⟨rfl, (by repeat (first | exact HB.out | apply bA | apply bN | apply bD))⟩)
 rw [if_neg h4] at h
 have h4b : (how == 4) = false := beq_eq_false_iff_ne.mpr h4
 by_cases h5 : how = 5
 rw [if_pos h5] at h
 have h5b : (how == 5) = true := beq_iff_eq.mpr h5
 clear h5
 by_cases z : ((q05 l0 n).f5.length : Int) = 0
 rw [if_pos z] at h
 obtain rfl := Option.some.inj h
 have zb : (((q05 l0 n).f5.length : Int) == 0) = true := beq_iff_eq.mpr z
 clear h z
 rotate_left
 rw [if_neg z] at h
 obtain rfl := Option.some.inj h
 have zb : (((q05 l0 n).f5.length : Int) == 0) = false := beq_eq_false_iff_ne.mpr z
 obtain ⟨j, hj⟩ : ∃ j : Int, (((q05 l0 n).f5.length : Int) - 1) = j := ⟨_, rfl⟩
 have p8 : 0 ≤ j := by omega
 have q8 : j < ((q05 l0 n).f5.length : Int) := by omega
 obtain ⟨ad8, e8, hx8⟩ := Kd.at_int HNC.out j p8 q8
 have hjw : IntKind.i64.wrap (((q05 l0 n).f5.length : Int) - 1) = j := by have := HN5.out; rw [← hj]; (try simp only [q1e]); unfold wrap64; omega
 have hjx : wrap64 (((q05 l0 n).f5.length : Int) - 1) = j := by have := HN5.out; rw [← hj]; unfold wrap64; omega
 rw [hj]
 clear hj
 subst e8
 replace p8 := eq_true p8
 replace q8 := eq_true q8
 clear h z
 focus (go_enter Tryd.func19, Tryd.ntmps19; go_wp2_with (first | ((with_reducible refine q15 (N := 3) rfl ?_); refine q0y ?hg (N := 3) ?hd (cs := #[.slice (some adn) l0.length c0, .bool a1]) (t := 24) ?hr ?_; (case hd => rfl); (case hg => rfl); (case hr => first | (go_simp; done) | (go_simp; rfl)); intro gb hg wb hbox hb; have n0_ := aS (q09 (by repeat (first | exact HB.out | apply bA | apply bN | apply bD)) hb); have BK := aS hbox; have hcz0 : wb.cell? ⟨gb, 0, none⟩ = some (.slice (some adn) l0.length c0) := (q02 BK.out 0).trans rfl; have hcz1 : wb.cell? ⟨gb, 1, none⟩ = some (.bool a1) := (q02 BK.out 1).trans rfl; clear HB; have HB := n0_; clear n0_ hg hbox hb) | (go_at_call 25; (with_reducible refine (q0c.calls k (some adn) c0 l0 a1 0 l _ (Kd.C_below HR.out (by repeat (first | exact HB.out | apply bA | apply bN | apply bD))) HC.out HL.out).mono ?_); rintro e wl ⟨vl, rfl, ho, hb⟩; have n0_ := aS (q09 (by repeat (first | exact HB.out | apply bA | apply bN | apply bD)) hb); obtain ⟨Al, cl, eo⟩ := Kd.R_slice ho; subst eo; have HLC := aS (Kd.R_reads' ho).2.2; have HLK := aS (Kd.R_reads' ho).2.1; clear HB; have HB := n0_; clear n0_ ho; have BKn := aS (q0g.blk BK.out hb); clear BK; have BK := BKn; clear BKn; clear hcz0 hcz1; have hcz0 : wl.cell? ⟨gb, 0, none⟩ = some (.slice (some adn) l0.length c0) := (q02 BK.out 0).trans rfl; have hcz1 : wl.cell? ⟨gb, 1, none⟩ = some (.bool a1) := (q02 BK.out 1).trans rfl; clear hb; replace hn4 := (HB.out.cell (World.block_lt_of_cell? w _ hn4)).trans hn4; replace hn5 := (HB.out.cell (World.block_lt_of_cell? w _ hn5)).trans hn5; replace hx8 := (HB.out.cell (World.block_lt_of_cell? w _ hx8)).trans hx8) | (go_at_call 74; (with_reducible refine (q08.calls k Al cl l n i _ (by repeat (first | (with_reducible exact HLC.out) | (with_reducible refine Kd.C_drewN ?_ _) | (with_reducible refine Kd.C_drew ?_) | (with_reducible refine Kd.C_alloc ?_ _))) HLK.out HI.out).mono ?_); rintro e w' ⟨rfl, ⟨nd, rfl⟩⟩)); (repeat (go_quiet (fail); try go_wp2)); go_ret; exact ⟨rfl, (by repeat (first | exact HB.out | apply bA | apply bN | apply bD))⟩)
 rw [if_neg h5] at h
 have h5b : (how == 5) = false := beq_eq_false_iff_ne.mpr h5
 by_cases h6 : how = 6
 rw [if_pos h6] at h
 have h6b : (how == 6) = true := beq_iff_eq.mpr h6
 have h67 : (how == 7) = false := beq_eq_false_iff_ne.mpr (by omega)
 clear h6
 unfold stepB at h
 rw [if_pos (.inl HP0.out)] at h
 obtain rfl := Option.some.inj h
 clear h
 rotate_left
 rw [if_neg h6] at h
 have h6b : (how == 6) = false := beq_eq_false_iff_ne.mpr h6
 by_cases h7 : how = 7
 rw [if_pos h7] at h
 have h7b : (how == 7) = true := beq_iff_eq.mpr h7
 clear h7
 unfold stepB at h
 rw [if_pos (.inl HP0.out)] at h
 obtain rfl := Option.some.inj h
 clear h
 rotate_left
 rw [if_neg h7] at h
 have h7b : (how == 7) = false := beq_eq_false_iff_ne.mpr h7
 obtain rfl := Option.some.inj h
 clear h h1 h2 h3 h4 h5 h6 h7
 all_goals (go_enter Tryd.func19, Tryd.ntmps19; go_wp2_with (first | ((with_reducible refine q15 (N := 3) rfl ?_); refine q0y ?hg (N := 3) ?hd (cs := #[.slice (some adn) l0.length c0, .bool a1]) (t := 24) ?hr ?_; (case hd => rfl); (case hg => rfl); (case hr => first | (go_simp; done) | (go_simp; rfl)); intro gb hg wb hbox hb; have n0_ := aS (q09 (by repeat (first | exact HB.out | apply bA | apply bN | apply bD)) hb); have BK := aS hbox; have hcz0 : wb.cell? ⟨gb, 0, none⟩ = some (.slice (some adn) l0.length c0) := (q02 BK.out 0).trans rfl; have hcz1 : wb.cell? ⟨gb, 1, none⟩ = some (.bool a1) := (q02 BK.out 1).trans rfl; clear HB; have HB := n0_; clear n0_ hg hbox hb) | (go_at_call 25; (with_reducible refine (q0c.calls k (some adn) c0 l0 a1 0 l _ (Kd.C_below HR.out (by repeat (first | exact HB.out | apply bA | apply bN | apply bD))) HC.out HL.out).mono ?_); rintro e wl ⟨vl, rfl, ho, hb⟩; have n0_ := aS (q09 (by repeat (first | exact HB.out | apply bA | apply bN | apply bD)) hb); obtain ⟨Al, cl, eo⟩ := Kd.R_slice ho; subst eo; have HLC := aS (Kd.R_reads' ho).2.2; have HLK := aS (Kd.R_reads' ho).2.1; clear HB; have HB := n0_; clear n0_ ho; have BKn := aS (q0g.blk BK.out hb); clear BK; have BK := BKn; clear BKn; clear hcz0 hcz1; have hcz0 : wl.cell? ⟨gb, 0, none⟩ = some (.slice (some adn) l0.length c0) := (q02 BK.out 0).trans rfl; have hcz1 : wl.cell? ⟨gb, 1, none⟩ = some (.bool a1) := (q02 BK.out 1).trans rfl; clear hb; replace hn4 := (HB.out.cell (World.block_lt_of_cell? w _ hn4)).trans hn4; replace hn5 := (HB.out.cell (World.block_lt_of_cell? w _ hn5)).trans hn5) | (go_at_call 74; (with_reducible refine (q08.calls k Al cl l n i _ (by repeat (first | (with_reducible exact HLC.out) | (with_reducible refine Kd.C_drewN ?_ _) | (with_reducible refine Kd.C_drew ?_) | (with_reducible refine Kd.C_alloc ?_ _))) HLK.out HI.out).mono ?_); rintro e w' ⟨rfl, ⟨nd, rfl⟩⟩) | (go_at_call 25; (with_reducible refine (q0c.calls k (some adn) c0 l0 a1 n l2 _ (Kd.C_below HR.out (by repeat (first | exact HB.out | apply bA | apply bN | apply bD))) HC.out HL2.out).mono ?_); rintro e w5 ⟨v5, rfl, ho, hb⟩; obtain ⟨Al2, cl2, eo⟩ := Kd.R_slice ho; subst eo; have n0_ := aS (q09 (by repeat (first | exact HB.out | apply bA | apply bN | apply bD)) hb); clear ho;  clear HB; have HB := n0_; clear n0_ hb)); (repeat (go_quiet (fail); try go_wp2)); go_ret; exact ⟨rfl, (by repeat (first | exact HB.out | apply bA | apply bN | apply bD))⟩)
theorem stepTail_mono (l0 : List S43) (a1 : Bool) (n how : Int) (l : List Int) (i kk p : Int) (ks : List Int) (k : Nat) : LeO (q2r k l0 a1 n how l i kk p ks) (q2r (k + 1) l0 a1 n how l i kk p ks) :=
 LeO.ite (LeO.refl _) (LeO.ite (LeO.refl _) (LeO.ite (LeO.map _ (q0c.mono l0 a1 n k)) (LeO.ite (LeO.refl _) (LeO.ite (LeO.refl _) (LeO.ite (LeO.refl _) (LeO.ite (LeO.refl _) (LeO.refl _)))))))
theorem q0n.mono (l0 : List S43) (a1 : Bool) (n how : Int) (k : Nat) : LeO (q0n.f k l0 a1 n how) (q0n.f (k + 1) l0 a1 n how) :=
 LeO.bind (q0c.mono l0 a1 0 k) fun _ => LeO.bind (q08.mono _ n k) fun _ => LeO.ite (LeO.ite (stepTail_mono l0 a1 n how _ _ _ _ _ k) (LeO.ite (LeO.bind (q08.mono _ n k) fun _ => stepTail_mono l0 a1 n how _ _ _ _ _ k) (LeO.refl _))) (LeO.refl _)
theorem q0n.calls (k : Nat) (A0 : Option Addr) (c0 : Nat) (l0 : List S43) (a1 : Bool) (n how r : Int) (w : World) (hr0 : Kd.C k43 w A0 l0.length l0) (hc0 : l0.length ≤ c0) (h : q0n.f k l0 a1 n how = some r) :
 Calls Tryd.prog 19 #[.agg #[.slice A0 l0.length c0, .bool a1], .int .i64 n, .int .i64 how] w fun e w' => e = .returned (.int .i64 r) ∧ Below w.heap.size w w' := by
 unfold q0n.f at h
 obtain ⟨l, hl, h⟩ := Option.bind_eq_some_iff.1 h
 obtain ⟨i, hi, h⟩ := Option.bind_eq_some_iff.1 h
 by_cases c : 0 ≤ n ∧ n < (l0.length : Int) ∧ (q05 l0 n).f5.length ≤ 4611686018427387904
 ·rw [if_pos c] at h
  by_cases c0' : (q05 l0 n).f4 < 0
  ·rw [if_pos c0'] at h
   exact q0n.neg k A0 c0 l0 a1 n how r l i w hr0 hc0 hl hi c.1 c.2.1 c.2.2 _ rfl c0' h
  ·rw [if_neg c0'] at h
   by_cases c1 : (q05 l0 n).f4 < (l0.length : Int)
   ·rw [if_pos c1] at h
    obtain ⟨kk, hk, h⟩ := Option.bind_eq_some_iff.1 h
    exact q0n.pos k A0 c0 l0 a1 n how r l i w hr0 hc0 hl hi c.1 c.2.1 c.2.2 kk _ rfl (by omega) c1 _ rfl hk h
   ·rw [if_neg c1] at h
    cases h
 ·rw [if_neg c] at h
  cases h
def q18.f  : Option ((List (S43)) × Bool) := some ((([(⟨1, (⟨#[]⟩ : ByteArray), ([] : List (S122)), (⟨#[]⟩ : ByteArray), (-1), (([1] : List Int))⟩ : S43), (⟨2, (⟨#[112]⟩ : ByteArray), (([(⟨(⟨#[97]⟩ : ByteArray), (⟨#[34]⟩ : ByteArray)⟩ : S122)] : List (S122))), (⟨#[]⟩ : ByteArray), 0, (([2] : List Int))⟩ : S43), (⟨3, (⟨#[]⟩ : ByteArray), ([] : List (S122)), (⟨#[60, 10]⟩ : ByteArray), 1, ([] : List Int)⟩ : S43)] : List (S43))), false)
set_option maxHeartbeats 8000000 in
set_option maxRecDepth 100000 in
theorem q18.calls  (r1 : List (S43)) (r2 : Bool) (w : World) (h : q18.f  = some (r1, r2)) :
 Calls Tryd.prog 75 #[] w fun e w' => ∃ v0_ : Value, e = .returned (.agg #[v0_, .bool r2]) ∧ Kd.N k43 43 w' w.heap.size (fun k_ => (w.heap.size ≤ k_)) v0_ r1 ∧ Below w.heap.size w w' := by
 have hu24 := Tryd.underlying24
 have hu43 := Tryd.underlying43
 have hu122 := Tryd.underlying122
 have HB := aS (Below.refl w.heap.size w)
 have H : (some ((([(⟨1, (⟨#[]⟩ : ByteArray), ([] : List (S122)), (⟨#[]⟩ : ByteArray), (-1), (([1] : List Int))⟩ : S43), (⟨2, (⟨#[112]⟩ : ByteArray), (([(⟨(⟨#[97]⟩ : ByteArray), (⟨#[34]⟩ : ByteArray)⟩ : S122)] : List (S122))), (⟨#[]⟩ : ByteArray), 0, (([2] : List Int))⟩ : S43), (⟨3, (⟨#[]⟩ : ByteArray), ([] : List (S122)), (⟨#[60, 10]⟩ : ByteArray), 1, ([] : List Int)⟩ : S43)] : List (S43))), false)) = some (r1, r2) := h
 clear h
 obtain ⟨y255, hy255⟩ : ∃ y_ : List Int, y_ = (([1] : List Int)) := ⟨_, rfl⟩
 replace H : (some ((([(⟨1, (⟨#[]⟩ : ByteArray), ([] : List (S122)), (⟨#[]⟩ : ByteArray), (-1), y255⟩ : S43), (⟨2, (⟨#[112]⟩ : ByteArray), (([(⟨(⟨#[97]⟩ : ByteArray), (⟨#[34]⟩ : ByteArray)⟩ : S122)] : List (S122))), (⟨#[]⟩ : ByteArray), 0, (([2] : List Int))⟩ : S43), (⟨3, (⟨#[]⟩ : ByteArray), ([] : List (S122)), (⟨#[60, 10]⟩ : ByteArray), 1, ([] : List Int)⟩ : S43)] : List (S43))), false)) = some (r1, r2) := by first | (rw [hy255]; with_reducible exact H) | (have H2_ := (Option.bind_some _ _).symm.trans H; rw [hy255]; with_reducible exact H2_) | (have H2_ := (Option.bind_some _ _).symm.trans H; with_reducible exact H2_) | with_reducible exact H | (rw [hy255]; exact H) | exact H
 have Ny255 := aS hy255
 clear hy255
 obtain ⟨y258, hy258⟩ : ∃ y_ : List (S122), y_ = (([(⟨(⟨#[97]⟩ : ByteArray), (⟨#[34]⟩ : ByteArray)⟩ : S122)] : List (S122))) := ⟨_, rfl⟩
 replace H : (some ((([(⟨1, (⟨#[]⟩ : ByteArray), ([] : List (S122)), (⟨#[]⟩ : ByteArray), (-1), y255⟩ : S43), (⟨2, (⟨#[112]⟩ : ByteArray), y258, (⟨#[]⟩ : ByteArray), 0, (([2] : List Int))⟩ : S43), (⟨3, (⟨#[]⟩ : ByteArray), ([] : List (S122)), (⟨#[60, 10]⟩ : ByteArray), 1, ([] : List Int)⟩ : S43)] : List (S43))), false)) = some (r1, r2) := by first | (rw [hy258]; with_reducible exact H) | (have H2_ := (Option.bind_some _ _).symm.trans H; rw [hy258]; with_reducible exact H2_) | (have H2_ := (Option.bind_some _ _).symm.trans H; with_reducible exact H2_) | with_reducible exact H | (rw [hy258]; exact H) | exact H
 have Ny258 := aS hy258
 clear hy258
 obtain ⟨y261, hy261⟩ : ∃ y_ : List Int, y_ = (([2] : List Int)) := ⟨_, rfl⟩
 replace H : (some ((([(⟨1, (⟨#[]⟩ : ByteArray), ([] : List (S122)), (⟨#[]⟩ : ByteArray), (-1), y255⟩ : S43), (⟨2, (⟨#[112]⟩ : ByteArray), y258, (⟨#[]⟩ : ByteArray), 0, y261⟩ : S43), (⟨3, (⟨#[]⟩ : ByteArray), ([] : List (S122)), (⟨#[60, 10]⟩ : ByteArray), 1, ([] : List Int)⟩ : S43)] : List (S43))), false)) = some (r1, r2) := by first | (rw [hy261]; with_reducible exact H) | (have H2_ := (Option.bind_some _ _).symm.trans H; rw [hy261]; with_reducible exact H2_) | (have H2_ := (Option.bind_some _ _).symm.trans H; with_reducible exact H2_) | with_reducible exact H | (rw [hy261]; exact H) | exact H
 have Ny261 := aS hy261
 clear hy261
 obtain ⟨y264, hy264⟩ : ∃ y_ : List (S43), y_ = (([(⟨1, (⟨#[]⟩ : ByteArray), ([] : List (S122)), (⟨#[]⟩ : ByteArray), (-1), y255⟩ : S43), (⟨2, (⟨#[112]⟩ : ByteArray), y258, (⟨#[]⟩ : ByteArray), 0, y261⟩ : S43), (⟨3, (⟨#[]⟩ : ByteArray), ([] : List (S122)), (⟨#[60, 10]⟩ : ByteArray), 1, ([] : List Int)⟩ : S43)] : List (S43))) := ⟨_, rfl⟩
 replace H : (some (y264, false)) = some (r1, r2) := by first | (rw [hy264]; with_reducible exact H) | (have H2_ := (Option.bind_some _ _).symm.trans H; rw [hy264]; with_reducible exact H2_) | (have H2_ := (Option.bind_some _ _).symm.trans H; with_reducible exact H2_) | with_reducible exact H | (rw [hy264]; exact H) | exact H
 have Ny264 := aS hy264
 clear hy264
 simp only [Option.some.injEq, Prod.mk.injEq] at H
 obtain ⟨rfl, rfl⟩ := H
 go_enter Tryd.func75, Tryd.ntmps75
 go_wp2_with (first | ((with_reducible refine q15 (N := 0) rfl ?_); refine q0y ?hg (N := 0) ?hd (cs := #[.slice none 0 0, .bool false]) (t := 24) ?hr ?_; (case hd => rfl); (case hg => rfl); (case hr => first | (go_simp; done) | (go_simp; rfl)); intro gb254 hg w1 hbox hb; have n0_ := aS (q09 (by repeat (first | (with_reducible first | exact HB.out | apply bA | apply bN | apply bD) | exact HB.out)) hb); have n1_ := aS (hbox); have n2_ := aS ((by rw [hg]; exact (q0k (by repeat (first | (with_reducible first | exact HB.out | apply bA | apply bN | apply bD) | exact HB.out))) : w.heap.size ≤ gb254)); have n3_ := aS ((by rw [hg]; exact (q0k (by repeat (first | (with_reducible first | exact HB.out | apply bA | apply bN | apply bD) | exact HB.out))) : w.heap.size ≤ gb254)); clear HB; have HB := n0_; have BK254 := n1_; have GW254 := n2_; have GE254 := n3_; clear n0_ n1_ n2_ n3_; clear hb hbox hg) | ((with_reducible refine q15 (N := 1) rfl ?_); refine Kd.R_lit (Kd.int .i64) _ 3 ?hg (N := 1) ?hd (xs := ([1] : List Int)) (inner := [.int .i64 1]) (ok := fun _ => True) (okp := fun _ => True) ?hr ?hp (fun _ hk => hk) trivial (Below.refl _ _) (Nat.le_refl _) (by simp) ?_; (case hd => rfl); (case hg => rfl); (case hr => first | (go_simp; done) | (go_simp; rfl)); (case hp => exact (Reps.one (show Kd.M (Kd.int .i64) _ _ _ 1 [.int .i64 1] from rfl) (Reps.none _ _))); intro v256 w2 ho3 hb hg_ hnew_; clear hg_ hnew_; (first | rw [← Ny255.out] at ho3 | (simp only [Int.reduceToNat] at ho3; rw [← Ny255.out] at ho3)); have n0_ := aS (Kd.R_lower (Kd.R_newM (M := fun k_ => (w.heap.size ≤ k_)) ho3 (q0k (by repeat (first | (with_reducible first | exact HB.out | apply bA | apply bN | apply bD | refine bS ?_ GE254.out) | exact HB.out))) (fun k_ h_ => h_)) (q0k (by repeat (first | (with_reducible first | exact HB.out | apply bA | apply bN | apply bD | refine bS ?_ GE254.out) | exact HB.out)))); have n1_ := aS (q16 (g := gb254) (o := .cells #[.slice none 0 0, .bool false] 24 (0, 0)) (by (with_reducible repeat (first | refine kN ?_ _ | refine kD ?_ | refine kA ?_ _)); exact BK254.out) hb); have n2_ := aS (q09 (by repeat (first | (with_reducible first | exact HB.out | apply bA | apply bN | apply bD | refine bS ?_ GE254.out) | exact HB.out)) hb); clear BK254; clear HB; have HO257 := n0_; have BK254 := n1_; have HB := n2_; clear n0_ n1_ n2_; clear hb ho3; obtain ⟨Ao4, co4, eo4⟩ := Kd.R_slice HO257.out; subst eo4) | ((with_reducible refine q15 (N := 4) rfl ?_); refine Kd.R_lit k122 _ 122 ?hg (N := 4) ?hd (xs := ([(⟨(⟨#[97]⟩ : ByteArray), (⟨#[34]⟩ : ByteArray)⟩ : S122)] : List (S122))) (inner := [.string (⟨#[97]⟩ : ByteArray), .string (⟨#[34]⟩ : ByteArray)]) (ok := fun _ => True) (okp := fun _ => True) ?hr ?hp (fun _ hk => hk) trivial (Below.refl _ _) (Nat.le_refl _) (by simp) ?_; (case hd => rfl); (case hg => rfl); (case hr => first | (go_simp; done) | (go_simp; rfl)); (case hp => exact (Reps.c2 (show Kd.M k122 _ _ _ (⟨(⟨#[97]⟩ : ByteArray), (⟨#[34]⟩ : ByteArray)⟩ : S122) [.string (⟨#[97]⟩ : ByteArray), .string (⟨#[34]⟩ : ByteArray)] from (k122_mkM _ _ _ (⟨(⟨#[97]⟩ : ByteArray), (⟨#[34]⟩ : ByteArray)⟩ : S122) )) (Reps.none _ _))); intro v259 w5 ho6 hb hg_ hnew_; clear hg_ hnew_; (first | rw [← Ny258.out] at ho6 | (simp only [Int.reduceToNat] at ho6; rw [← Ny258.out] at ho6)); have n0_ := aS (Kd.R_below (by (with_reducible repeat (first | apply rA | apply rN | apply rD)); exact HO257.out) hb); have n1_ := aS (Kd.R_lower (Kd.R_newM (M := fun k_ => (w.heap.size ≤ k_)) ho6 (q0k (by repeat (first | (with_reducible first | exact HB.out | apply bA | apply bN | apply bD | refine bS ?_ GE254.out) | exact HB.out))) (fun k_ h_ => h_)) (q0k (by repeat (first | (with_reducible first | exact HB.out | apply bA | apply bN | apply bD | refine bS ?_ GE254.out) | exact HB.out)))); have n2_ := aS (q16 (g := gb254) (o := .cells #[.slice none 0 0, .bool false] 24 (0, 0)) (by (with_reducible repeat (first | refine kN ?_ _ | refine kD ?_ | refine kA ?_ _)); exact BK254.out) hb); have n3_ := aS (q09 (by repeat (first | (with_reducible first | exact HB.out | apply bA | apply bN | apply bD | refine bS ?_ GE254.out) | exact HB.out)) hb); clear HO257; clear BK254; clear HB; have HO257 := n0_; have HO260 := n1_; have BK254 := n2_; have HB := n3_; clear n0_ n1_ n2_ n3_; clear hb ho6) | ((with_reducible refine q15 (N := 5) rfl ?_); refine Kd.R_lit (Kd.int .i64) _ 3 ?hg (N := 5) ?hd (xs := ([2] : List Int)) (inner := [.int .i64 2]) (ok := fun _ => True) (okp := fun _ => True) ?hr ?hp (fun _ hk => hk) trivial (Below.refl _ _) (Nat.le_refl _) (by simp) ?_; (case hd => rfl); (case hg => rfl); (case hr => first | (go_simp; done) | (go_simp; rfl)); (case hp => exact (Reps.one (show Kd.M (Kd.int .i64) _ _ _ 2 [.int .i64 2] from rfl) (Reps.none _ _))); intro v262 w7 ho8 hb hg_ hnew_; clear hg_ hnew_; (first | rw [← Ny261.out] at ho8 | (simp only [Int.reduceToNat] at ho8; rw [← Ny261.out] at ho8)); have n0_ := aS (Kd.R_elder' (by (with_reducible repeat (first | apply rA | apply rN | apply rD)); exact HO257.out) (Kd.R_base ho8) hb); have n1_ := aS (Kd.R_below (by (with_reducible repeat (first | apply rA | apply rN | apply rD)); exact HO260.out) hb); have n2_ := aS (Kd.R_lower (Kd.R_new' (Kd.R_newM (M := fun k_ => (w.heap.size ≤ k_)) ho8 (q0k (by repeat (first | (with_reducible first | exact HB.out | apply bA | apply bN | apply bD | refine bS ?_ GE254.out) | exact HB.out))) (fun k_ h_ => h_)) (Kd.R_lt (by (with_reducible repeat (first | apply rA | apply rN | apply rD)); exact HO257.out))) (q0k (by repeat (first | (with_reducible first | exact HB.out | apply bA | apply bN | apply bD | refine bS ?_ GE254.out) | exact HB.out)))); have n3_ := aS (q16 (g := gb254) (o := .cells #[.slice none 0 0, .bool false] 24 (0, 0)) (by (with_reducible repeat (first | refine kN ?_ _ | refine kD ?_ | refine kA ?_ _)); exact BK254.out) hb); have n4_ := aS (q09 (by repeat (first | (with_reducible first | exact HB.out | apply bA | apply bN | apply bD | refine bS ?_ GE254.out) | exact HB.out)) hb); clear HO257; clear HO260; clear BK254; clear HB; have HO257 := n0_; have HO260 := n1_; have HO263 := n2_; have BK254 := n3_; have HB := n4_; clear n0_ n1_ n2_ n3_ n4_; clear hb ho8; obtain ⟨Ao9, co9, eo9⟩ := Kd.R_slice HO263.out; subst eo9; obtain ⟨Ao10, co10, eo10⟩ := Kd.R_slice HO260.out; subst eo10) | ((with_reducible refine q15 (N := 8) rfl ?_); refine Kd.N_lit k43 _ 43 ?hg (N' := 8) ?hd (xs := ([(⟨1, (⟨#[]⟩ : ByteArray), ([] : List (S122)), (⟨#[]⟩ : ByteArray), (-1), y255⟩ : S43), (⟨2, (⟨#[112]⟩ : ByteArray), y258, (⟨#[]⟩ : ByteArray), 0, y261⟩ : S43), (⟨3, (⟨#[]⟩ : ByteArray), ([] : List (S122)), (⟨#[60, 10]⟩ : ByteArray), 1, ([] : List Int)⟩ : S43)] : List (S43))) (inner := [.int .i64 1, .string (⟨#[]⟩ : ByteArray), .slice none 0 0, .string (⟨#[]⟩ : ByteArray), .int .i64 (-1), .slice Ao4 y255.length co4, .int .i64 2, .string (⟨#[112]⟩ : ByteArray), .slice Ao10 y258.length co10, .string (⟨#[]⟩ : ByteArray), .int .i64 0, .slice Ao9 y261.length co9, .int .i64 3, .string (⟨#[]⟩ : ByteArray), .slice none 0 0, .string (⟨#[60, 10]⟩ : ByteArray), .int .i64 1, .slice none 0 0]) (ok := (fun k_ => (w.heap.size ≤ k_) ∧ k_ ≠ gb254)) (okp := (fun k_ => (w.heap.size ≤ k_) ∧ k_ ≠ gb254)) ?hr ?hp (fun _ hk => hk) ((show ∀ k_, w7.heap.size ≤ k_ → (fun k_ => (w.heap.size ≤ k_) ∧ k_ ≠ gb254) k_ from fun k_ hk => ⟨(Nat.le_trans (q0k (by repeat (first | (with_reducible first | exact HB.out | apply bA | apply bN | apply bD | refine bS ?_ GE254.out) | exact HB.out))) hk), Kd.freshB (g := gb254) (o := .cells #[.slice none 0 0, .bool false] 24 (0, 0)) (by (with_reducible repeat (first | refine kN ?_ _ | refine kD ?_ | refine kA ?_ _)); exact BK254.out) k_ hk⟩) _ (by first | exact Nat.le_refl _ | simp)) (Below.refl _ _) (Nat.le_refl _) (by simp) ?_; (case hd => rfl); (case hg => rfl); (case hr => first | (go_simp; done) | (go_simp; rfl)); (case hp => exact (Reps.c6 (show Kd.FK k43 _ _ (⟨1, (⟨#[]⟩ : ByteArray), ([] : List (S122)), (⟨#[]⟩ : ByteArray), (-1), y255⟩ : S43) [.int .i64 1, .string (⟨#[]⟩ : ByteArray), .slice none 0 0, .string (⟨#[]⟩ : ByteArray), .int .i64 (-1), .slice Ao4 y255.length co4] from (k43_mkF _ _ (⟨1, (⟨#[]⟩ : ByteArray), ([] : List (S122)), (⟨#[]⟩ : ByteArray), (-1), y255⟩ : S43) (Nat.le_refl _) (Kd.F_nil _ _ _) (Kd.R_reads' (Kd.R_mono (ok' := (fun k_ => (w.heap.size ≤ k_) ∧ k_ ≠ gb254)) (Kd.R_types (HO257.out) BK254.out (by decide)) (fun k_ hk => ⟨hk.1.1.1, hk.2⟩))).2.1 (Kd.R_F (Kd.R_mono (ok' := (fun k_ => (w.heap.size ≤ k_) ∧ k_ ≠ gb254)) (Kd.R_types (HO257.out) BK254.out (by decide)) (fun k_ hk => ⟨hk.1.1.1, hk.2⟩))))) (Reps.c6 (show Kd.FK k43 _ _ (⟨2, (⟨#[112]⟩ : ByteArray), y258, (⟨#[]⟩ : ByteArray), 0, y261⟩ : S43) [.int .i64 2, .string (⟨#[112]⟩ : ByteArray), .slice Ao10 y258.length co10, .string (⟨#[]⟩ : ByteArray), .int .i64 0, .slice Ao9 y261.length co9] from (k43_mkFV _ _ (⟨2, (⟨#[112]⟩ : ByteArray), y258, (⟨#[]⟩ : ByteArray), 0, y261⟩ : S43) (Kd.R_V (base' := 0) (Kd.R_mono (ok' := (fun k_ => (w.heap.size ≤ k_) ∧ k_ ≠ gb254)) (Kd.R_types (HO260.out) BK254.out (by decide)) (fun k_ hk => ⟨hk.1.1, hk.2⟩))) (Kd.R_V (base' := 0) (Kd.R_mono (ok' := (fun k_ => (w.heap.size ≤ k_) ∧ k_ ≠ gb254)) (Kd.R_types (HO263.out) BK254.out (by decide)) (fun k_ hk => ⟨hk.1.1.1, hk.2⟩))))) (Reps.c6 (show Kd.FK k43 _ _ (⟨3, (⟨#[]⟩ : ByteArray), ([] : List (S122)), (⟨#[60, 10]⟩ : ByteArray), 1, ([] : List Int)⟩ : S43) [.int .i64 3, .string (⟨#[]⟩ : ByteArray), .slice none 0 0, .string (⟨#[60, 10]⟩ : ByteArray), .int .i64 1, .slice none 0 0] from (k43_mkF _ _ (⟨3, (⟨#[]⟩ : ByteArray), ([] : List (S122)), (⟨#[60, 10]⟩ : ByteArray), 1, ([] : List Int)⟩ : S43) (Nat.le_refl _) (Kd.F_nil _ _ _) (Nat.le_refl _) (Kd.F_nil _ _ _))) (Reps.none _ _))))); intro v265 w11 ho12 hb hg_ hnew_; clear hg_ hnew_; (first | rw [← Ny264.out] at ho12 | (simp only [Int.reduceToNat] at ho12; rw [← Ny264.out] at ho12)); have n0_ := aS (Kd.N_lower ho12 (q0k (by repeat (first | (with_reducible first | exact HB.out | apply bA | apply bN | apply bD | refine bS ?_ GE254.out) | exact HB.out)))); have n1_ := aS (q16 (g := gb254) (o := .cells #[.slice none 0 0, .bool false] 24 (0, 0)) (by (with_reducible repeat (first | refine kN ?_ _ | refine kD ?_ | refine kA ?_ _)); exact BK254.out) hb); have n2_ := aS (q09 (by repeat (first | (with_reducible first | exact HB.out | apply bA | apply bN | apply bD | refine bS ?_ GE254.out) | exact HB.out)) hb); clear BK254; clear HB; clear HO257; clear HO260; clear HO263; have HO266 := n0_; have BK254 := n1_; have HB := n2_; clear n0_ n1_ n2_; clear hb ho12; obtain ⟨Ao13, co13, eo13⟩ := Kd.N_slice HO266.out; subst eo13; have hcz14_0 : w11.cell? ⟨gb254, 0, none⟩ = some (.slice none 0 0) := (q02 BK254.out 0).trans rfl; have hcz14_1 : w11.cell? ⟨gb254, 1, none⟩ = some (.bool false) := (q02 BK254.out 1).trans rfl; have hfz14_0 := q01 BK254.out 0; have hfz14_1 := q01 BK254.out 1))
 refine bodyPost_ret (results_cell_row rfl _ _ gb254 24 #[.slice Ao13 y264.length co13, .bool false] (0, 0) _ rfl (by (with_reducible repeat (first | refine kN ?_ _ | refine kD ?_ | refine kA ?_ _)); refine q1p (cs := #[.slice Ao13 y264.length co13, .bool false]) ?_ 1 _ rfl; (with_reducible repeat (first | refine kN ?_ _ | refine kD ?_ | refine kA ?_ _)); refine q1p (cs := #[.slice none 0 0, .bool false]) ?_ 0 _ rfl; (with_reducible repeat (first | refine kN ?_ _ | refine kD ?_ | refine kA ?_ _)); exact BK254.out) Tryd.underlying24 rfl (by kernel_rfl)) rfl ?_
 exact ⟨_, by first | rfl | (simp [q0b, q0a] <;> rfl) | (simp [*, q0b, q0a] <;> rfl), by (with_reducible repeat (first | apply nA | apply nN | apply nD)); exact Kd.N_mono (Kd.N_far (p := ⟨gb254, 1, none⟩) (Kd.N_far (p := ⟨gb254, 0, none⟩) (Kd.N_mono HO266.out (fun k_ hk => (⟨hk, hk.2⟩ : _ ∧ k_ ≠ gb254))) (fun _ hk => hk.2) (.slice Ao13 y264.length co13)) (fun _ hk => hk.2) (.bool false)) (fun _ hk => hk.1.1), by repeat (first | (with_reducible first | exact HB.out | apply bA | apply bN | apply bD | refine bS ?_ GE254.out) | exact HB.out)⟩
def q0m.f (k : Nat)  : Option (Bool) := (q18.f).bind fun bt267 => ((q1k.f k bt267.1 bt267.2 1 1).bind fun bt271 => ((q18.f).bind fun bt274 => ((q1m.f k bt274.1 bt274.2 1 2).bind fun bt278 => (if bt271.1 = 2 then (if bt271.2.1 = true then (if bt271.2.2 = 0 then (if bt278.1 = 1 then (some (bt278.2 == 0)) else (some false)) else (some false)) else (some false)) else (some false)))))
theorem q0m.mono : ∀ k, LeO (q0m.f k ) (q0m.f (k + 1) ) := by
 intro  k
 unfold q0m.f
 repeat' first
  | (with_reducible exact q1m.mono _ _ _ _ _)
  | (with_reducible exact q1k.mono _ _ _ _ _)
  | (with_reducible exact LeO.refl _)
  | (with_reducible exact LeO.none _)
  | (with_reducible refine LeO.ite ?_ ?_)
  | (with_reducible refine LeO.bind ?_ (fun _ => ?_))
  | exact q1m.mono _ _ _ _ _
  | exact q1k.mono _ _ _ _ _
  | exact LeO.none _
  | refine LeO.ite ?_ ?_
  | refine LeO.bind ?_ (fun _ => ?_)
set_option maxHeartbeats 8000000 in
set_option maxRecDepth 100000 in
theorem q0m.calls (k : Nat)  (r : Bool) (w : World) (h : q0m.f k  = some r) :
 Calls Tryd.prog 20 #[] w fun e w' => e = .returned (.bool r) ∧ Below w.heap.size w w' := by
 have HB := aS (Below.refl w.heap.size w)
 have H : ((q18.f).bind fun bt267 => ((q1k.f k bt267.1 bt267.2 1 1).bind fun bt271 => ((q18.f).bind fun bt274 => ((q1m.f k bt274.1 bt274.2 1 2).bind fun bt278 => (if bt271.1 = 2 then (if bt271.2.1 = true then (if bt271.2.2 = 0 then (if bt278.1 = 1 then (some (bt278.2 == 0)) else (some false)) else (some false)) else (some false)) else (some false)))))) = some r := h
 clear h
 replace H := Option.bind_eq_some_iff.mp H
 obtain ⟨⟨t267, t270⟩, A10, H⟩ := H
 replace H : ((q1k.f k t267 t270 1 1).bind fun bt271 => ((q18.f).bind fun bt274 => ((q1m.f k bt274.1 bt274.2 1 2).bind fun bt278 => (if bt271.1 = 2 then (if bt271.2.1 = true then (if bt271.2.2 = 0 then (if bt278.1 = 1 then (some (bt278.2 == 0)) else (some false)) else (some false)) else (some false)) else (some false))))) = some r := H
 have A1 := aS A10
 clear A10
 replace H := Option.bind_eq_some_iff.mp H
 obtain ⟨⟨t271, t272, t273⟩, A20, H⟩ := H
 replace H : ((q18.f).bind fun bt274 => ((q1m.f k bt274.1 bt274.2 1 2).bind fun bt278 => (if t271 = 2 then (if t272 = true then (if t273 = 0 then (if bt278.1 = 1 then (some (bt278.2 == 0)) else (some false)) else (some false)) else (some false)) else (some false)))) = some r := H
 have A2 := aS A20
 clear A20
 replace H := Option.bind_eq_some_iff.mp H
 obtain ⟨⟨t274, t277⟩, A30, H⟩ := H
 replace H : ((q1m.f k t274 t277 1 2).bind fun bt278 => (if t271 = 2 then (if t272 = true then (if t273 = 0 then (if bt278.1 = 1 then (some (bt278.2 == 0)) else (some false)) else (some false)) else (some false)) else (some false))) = some r := H
 have A3 := aS A30
 clear A30
 replace H := Option.bind_eq_some_iff.mp H
 obtain ⟨⟨t278, t279⟩, A40, H⟩ := H
 replace H : (if t271 = 2 then (if t272 = true then (if t273 = 0 then (if t278 = 1 then (some (t279 == 0)) else (some false)) else (some false)) else (some false)) else (some false)) = some r := H
 have A4 := aS A40
 clear A40
 by_cases c5 : t271 = 2
 ·rw [if_pos c5] at H
  have c5b0 : (t271 == 2) = true := beq_iff_eq.mpr c5
  have c5b1 : (t271 != 2) = false := bne_eq_false_iff_eq.mpr c5
  clear c5
  by_cases c6 : t272 = true
  ·subst c6
   have H1 : (if t273 = 0 then (if t278 = 1 then (some (t279 == 0)) else (some false)) else (some false)) = some r := by rw [if_pos rfl] at H; exact H
   clear H
   have H := H1
   clear H1
   by_cases c7 : t273 = 0
   ·rw [if_pos c7] at H
    have c7b0 : (t273 == 0) = true := beq_iff_eq.mpr c7
    have c7b1 : (t273 != 0) = false := bne_eq_false_iff_eq.mpr c7
    clear c7
    by_cases c8 : t278 = 1
    ·rw [if_pos c8] at H
     have c8b0 : (t278 == 1) = true := beq_iff_eq.mpr c8
     have c8b1 : (t278 != 1) = false := bne_eq_false_iff_eq.mpr c8
     clear c8
     obtain rfl := Option.some.inj H
     go_enter Tryd.func20, Tryd.ntmps20
     go_wp2_with (first | ((with_reducible refine q0l (f := 75) rfl ?_); refine q1d (some 7) rfl rfl Tryd.func75 (by kernel_rfl) rfl #[] rfl (by (try simp only [List.map_toArray, List.map_cons, List.map_nil]); first | done | rfl | (simp only [List.length_drop, List.length_take]; rfl)) ?_; (with_reducible refine (q18.calls  t267 t270 _ A1.out).mono ?_); rintro e w9 ⟨v268, rfl, ho0, hb⟩; refine ⟨_, rfl, ?_⟩; have n0_ := aS (Kd.N_lower (Kd.N_mono (ok' := fun k_ => True) ho0 (fun k_ hk_ => trivial)) (q0k (by repeat (first | (with_reducible first | exact HB.out | apply bA | apply bN | apply bD) | exact HB.out)))); have n1_ := aS (q09 (by repeat (first | (with_reducible first | exact HB.out | apply bA | apply bN | apply bD) | exact HB.out)) hb); clear HB; have HO269 := n0_; have HB := n1_; clear n0_ n1_; (try clear hb); (try clear hb2); (try clear hk); (try clear hi); (try clear ho0); obtain ⟨Ao10, co10, eo10⟩ := Kd.N_slice HO269.out; subst eo10) | ((with_reducible refine q0l (f := 16) rfl ?_); refine q1d (some 8) rfl rfl Tryd.func16 (by kernel_rfl) rfl #[.agg #[.slice Ao10 t267.length co10, .bool t270], .int .i64 1, .int .i64 1] rfl (by (try simp only [List.map_toArray, List.map_cons, List.map_nil]); first | done | rfl | (simp only [List.length_drop, List.length_take]; rfl)) ?_; (with_reducible refine (q1k.calls k _ _ t267 t270 1 1 t271 true t273 _ ?side1 ?side2 A2.out).mono ?_); (case side1 => repeat (first | exact (Kd.N_reads' HO269.out).2.2 | (with_reducible refine cA ?_ _) | (with_reducible refine cN ?_ _) | (with_reducible refine cD ?_))); (case side2 => exact (Kd.N_reads' HO269.out).2.1); rintro e w11 ⟨rfl, hb⟩; refine ⟨_, rfl, ?_⟩; have n0_ := aS (Kd.N_below (by (with_reducible repeat (first | apply nA | apply nN | apply nD)); exact HO269.out) hb); have n1_ := aS (q09 (by repeat (first | (with_reducible first | exact HB.out | apply bA | apply bN | apply bD) | exact HB.out)) hb); clear HO269; clear HB; have HO269 := n0_; have HB := n1_; clear n0_ n1_; (try clear hb); (try clear hb2); (try clear hk); (try clear hi)) | ((with_reducible refine q0l (f := 75) rfl ?_); refine q1d (some 13) rfl rfl Tryd.func75 (by kernel_rfl) rfl #[] rfl (by (try simp only [List.map_toArray, List.map_cons, List.map_nil]); first | done | rfl | (simp only [List.length_drop, List.length_take]; rfl)) ?_; (with_reducible refine (q18.calls  t274 t277 _ A3.out).mono ?_); rintro e w12 ⟨v275, rfl, ho0, hb⟩; refine ⟨_, rfl, ?_⟩; have n0_ := aS (Kd.N_elder' (by (with_reducible repeat (first | apply nA | apply nN | apply nD)); exact HO269.out) (Kd.N_base ho0) hb); have n1_ := aS (Kd.N_lower (Kd.N_mono (ok' := fun k_ => some k_ ≠ (.slice Ao10 t267.length co10 : Value).ownBlock) ho0 (fun k_ hk_ => (Kd.fresh' (Kd.N_lt (by (with_reducible repeat (first | apply nA | apply nN | apply nD)); exact HO269.out)) k_ hk_))) (q0k (by repeat (first | (with_reducible first | exact HB.out | apply bA | apply bN | apply bD) | exact HB.out)))); have n2_ := aS (q09 (by repeat (first | (with_reducible first | exact HB.out | apply bA | apply bN | apply bD) | exact HB.out)) hb); clear HO269; clear HB; have HO269 := n0_; have HO276 := n1_; have HB := n2_; clear n0_ n1_ n2_; (try clear hb); (try clear hb2); (try clear hk); (try clear hi); (try clear ho0); obtain ⟨Ao13, co13, eo13⟩ := Kd.N_slice HO276.out; subst eo13) | ((with_reducible refine q0l (f := 23) rfl ?_); refine q1d (some 14) rfl rfl Tryd.func23 (by kernel_rfl) rfl #[.agg #[.slice Ao13 t274.length co13, .bool t277], .int .i64 1, .int .i64 2] rfl (by (try simp only [List.map_toArray, List.map_cons, List.map_nil]); first | done | rfl | (simp only [List.length_drop, List.length_take]; rfl)) ?_; (with_reducible refine (q1m.calls k _ _ t274 t277 1 2 t278 t279 _ ?side1 ?side2 A4.out).mono ?_); (case side1 => repeat (first | exact (Kd.N_reads' HO276.out).2.2 | (with_reducible refine cA ?_ _) | (with_reducible refine cN ?_ _) | (with_reducible refine cD ?_))); (case side2 => exact (Kd.N_reads' HO276.out).2.1); rintro e w14 ⟨rfl, hb⟩; refine ⟨_, rfl, ?_⟩; have n0_ := aS (Kd.N_below (by (with_reducible repeat (first | apply nA | apply nN | apply nD)); exact HO269.out) hb); have n1_ := aS (Kd.N_below (by (with_reducible repeat (first | apply nA | apply nN | apply nD)); exact HO276.out) hb); have n2_ := aS (q09 (by repeat (first | (with_reducible first | exact HB.out | apply bA | apply bN | apply bD) | exact HB.out)) hb); clear HO269; clear HO276; clear HB; have HO269 := n0_; have HO276 := n1_; have HB := n2_; clear n0_ n1_ n2_; (try clear hb); (try clear hb2); (try clear hk); (try clear hi)))
     go_ret
     exact ⟨by first | rfl | (simp [q0b, q0a] <;> rfl) | (simp [*, q0b, q0a] <;> rfl), by repeat (first | (with_reducible first | exact HB.out | apply bA | apply bN | apply bD) | exact HB.out)⟩
    ·rw [if_neg c8] at H
     have c8b0 : (t278 == 1) = false := beq_eq_false_iff_ne.mpr c8
     have c8b1 : (t278 != 1) = true := bne_iff_ne.mpr c8
     obtain rfl := Option.some.inj H
     go_enter Tryd.func20, Tryd.ntmps20
     go_wp2_with (first | ((with_reducible refine q0l (f := 75) rfl ?_); refine q1d (some 7) rfl rfl Tryd.func75 (by kernel_rfl) rfl #[] rfl (by (try simp only [List.map_toArray, List.map_cons, List.map_nil]); first | done | rfl | (simp only [List.length_drop, List.length_take]; rfl)) ?_; (with_reducible refine (q18.calls  t267 t270 _ A1.out).mono ?_); rintro e w15 ⟨v268, rfl, ho0, hb⟩; refine ⟨_, rfl, ?_⟩; have n0_ := aS (Kd.N_lower (Kd.N_mono (ok' := fun k_ => True) ho0 (fun k_ hk_ => trivial)) (q0k (by repeat (first | (with_reducible first | exact HB.out | apply bA | apply bN | apply bD) | exact HB.out)))); have n1_ := aS (q09 (by repeat (first | (with_reducible first | exact HB.out | apply bA | apply bN | apply bD) | exact HB.out)) hb); clear HB; have HO269 := n0_; have HB := n1_; clear n0_ n1_; (try clear hb); (try clear hb2); (try clear hk); (try clear hi); (try clear ho0); obtain ⟨Ao16, co16, eo16⟩ := Kd.N_slice HO269.out; subst eo16) | ((with_reducible refine q0l (f := 16) rfl ?_); refine q1d (some 8) rfl rfl Tryd.func16 (by kernel_rfl) rfl #[.agg #[.slice Ao16 t267.length co16, .bool t270], .int .i64 1, .int .i64 1] rfl (by (try simp only [List.map_toArray, List.map_cons, List.map_nil]); first | done | rfl | (simp only [List.length_drop, List.length_take]; rfl)) ?_; (with_reducible refine (q1k.calls k _ _ t267 t270 1 1 t271 true t273 _ ?side1 ?side2 A2.out).mono ?_); (case side1 => repeat (first | exact (Kd.N_reads' HO269.out).2.2 | (with_reducible refine cA ?_ _) | (with_reducible refine cN ?_ _) | (with_reducible refine cD ?_))); (case side2 => exact (Kd.N_reads' HO269.out).2.1); rintro e w17 ⟨rfl, hb⟩; refine ⟨_, rfl, ?_⟩; have n0_ := aS (Kd.N_below (by (with_reducible repeat (first | apply nA | apply nN | apply nD)); exact HO269.out) hb); have n1_ := aS (q09 (by repeat (first | (with_reducible first | exact HB.out | apply bA | apply bN | apply bD) | exact HB.out)) hb); clear HO269; clear HB; have HO269 := n0_; have HB := n1_; clear n0_ n1_; (try clear hb); (try clear hb2); (try clear hk); (try clear hi)) | ((with_reducible refine q0l (f := 75) rfl ?_); refine q1d (some 13) rfl rfl Tryd.func75 (by kernel_rfl) rfl #[] rfl (by (try simp only [List.map_toArray, List.map_cons, List.map_nil]); first | done | rfl | (simp only [List.length_drop, List.length_take]; rfl)) ?_; (with_reducible refine (q18.calls  t274 t277 _ A3.out).mono ?_); rintro e w18 ⟨v275, rfl, ho0, hb⟩; refine ⟨_, rfl, ?_⟩; have n0_ := aS (Kd.N_elder' (by (with_reducible repeat (first | apply nA | apply nN | apply nD)); exact HO269.out) (Kd.N_base ho0) hb); have n1_ := aS (Kd.N_lower (Kd.N_mono (ok' := fun k_ => some k_ ≠ (.slice Ao16 t267.length co16 : Value).ownBlock) ho0 (fun k_ hk_ => (Kd.fresh' (Kd.N_lt (by (with_reducible repeat (first | apply nA | apply nN | apply nD)); exact HO269.out)) k_ hk_))) (q0k (by repeat (first | (with_reducible first | exact HB.out | apply bA | apply bN | apply bD) | exact HB.out)))); have n2_ := aS (q09 (by repeat (first | (with_reducible first | exact HB.out | apply bA | apply bN | apply bD) | exact HB.out)) hb); clear HO269; clear HB; have HO269 := n0_; have HO276 := n1_; have HB := n2_; clear n0_ n1_ n2_; (try clear hb); (try clear hb2); (try clear hk); (try clear hi); (try clear ho0); obtain ⟨Ao19, co19, eo19⟩ := Kd.N_slice HO276.out; subst eo19) | ((with_reducible refine q0l (f := 23) rfl ?_); refine q1d (some 14) rfl rfl Tryd.func23 (by kernel_rfl) rfl #[.agg #[.slice Ao19 t274.length co19, .bool t277], .int .i64 1, .int .i64 2] rfl (by (try simp only [List.map_toArray, List.map_cons, List.map_nil]); first | done | rfl | (simp only [List.length_drop, List.length_take]; rfl)) ?_; (with_reducible refine (q1m.calls k _ _ t274 t277 1 2 t278 t279 _ ?side1 ?side2 A4.out).mono ?_); (case side1 => repeat (first | exact (Kd.N_reads' HO276.out).2.2 | (with_reducible refine cA ?_ _) | (with_reducible refine cN ?_ _) | (with_reducible refine cD ?_))); (case side2 => exact (Kd.N_reads' HO276.out).2.1); rintro e w20 ⟨rfl, hb⟩; refine ⟨_, rfl, ?_⟩; have n0_ := aS (Kd.N_below (by (with_reducible repeat (first | apply nA | apply nN | apply nD)); exact HO269.out) hb); have n1_ := aS (Kd.N_below (by (with_reducible repeat (first | apply nA | apply nN | apply nD)); exact HO276.out) hb); have n2_ := aS (q09 (by repeat (first | (with_reducible first | exact HB.out | apply bA | apply bN | apply bD) | exact HB.out)) hb); clear HO269; clear HO276; clear HB; have HO269 := n0_; have HO276 := n1_; have HB := n2_; clear n0_ n1_ n2_; (try clear hb); (try clear hb2); (try clear hk); (try clear hi)))
     go_ret
     exact ⟨by first | rfl | (simp [q0b, q0a] <;> rfl) | (simp [*, q0b, q0a] <;> rfl), by repeat (first | (with_reducible first | exact HB.out | apply bA | apply bN | apply bD) | exact HB.out)⟩
   ·rw [if_neg c7] at H
    have c7b0 : (t273 == 0) = false := beq_eq_false_iff_ne.mpr c7
    have c7b1 : (t273 != 0) = true := bne_iff_ne.mpr c7
    obtain rfl := Option.some.inj H
    go_enter Tryd.func20, Tryd.ntmps20
    go_wp2_with (first | ((with_reducible refine q0l (f := 75) rfl ?_); refine q1d (some 7) rfl rfl Tryd.func75 (by kernel_rfl) rfl #[] rfl (by (try simp only [List.map_toArray, List.map_cons, List.map_nil]); first | done | rfl | (simp only [List.length_drop, List.length_take]; rfl)) ?_; (with_reducible refine (q18.calls  t267 t270 _ A1.out).mono ?_); rintro e w21 ⟨v268, rfl, ho0, hb⟩; refine ⟨_, rfl, ?_⟩; have n0_ := aS (Kd.N_lower (Kd.N_mono (ok' := fun k_ => True) ho0 (fun k_ hk_ => trivial)) (q0k (by repeat (first | (with_reducible first | exact HB.out | apply bA | apply bN | apply bD) | exact HB.out)))); have n1_ := aS (q09 (by repeat (first | (with_reducible first | exact HB.out | apply bA | apply bN | apply bD) | exact HB.out)) hb); clear HB; have HO269 := n0_; have HB := n1_; clear n0_ n1_; (try clear hb); (try clear hb2); (try clear hk); (try clear hi); (try clear ho0); obtain ⟨Ao22, co22, eo22⟩ := Kd.N_slice HO269.out; subst eo22) | ((with_reducible refine q0l (f := 16) rfl ?_); refine q1d (some 8) rfl rfl Tryd.func16 (by kernel_rfl) rfl #[.agg #[.slice Ao22 t267.length co22, .bool t270], .int .i64 1, .int .i64 1] rfl (by (try simp only [List.map_toArray, List.map_cons, List.map_nil]); first | done | rfl | (simp only [List.length_drop, List.length_take]; rfl)) ?_; (with_reducible refine (q1k.calls k _ _ t267 t270 1 1 t271 true t273 _ ?side1 ?side2 A2.out).mono ?_); (case side1 => repeat (first | exact (Kd.N_reads' HO269.out).2.2 | (with_reducible refine cA ?_ _) | (with_reducible refine cN ?_ _) | (with_reducible refine cD ?_))); (case side2 => exact (Kd.N_reads' HO269.out).2.1); rintro e w23 ⟨rfl, hb⟩; refine ⟨_, rfl, ?_⟩; have n0_ := aS (Kd.N_below (by (with_reducible repeat (first | apply nA | apply nN | apply nD)); exact HO269.out) hb); have n1_ := aS (q09 (by repeat (first | (with_reducible first | exact HB.out | apply bA | apply bN | apply bD) | exact HB.out)) hb); clear HO269; clear HB; have HO269 := n0_; have HB := n1_; clear n0_ n1_; (try clear hb); (try clear hb2); (try clear hk); (try clear hi)) | ((with_reducible refine q0l (f := 75) rfl ?_); refine q1d (some 13) rfl rfl Tryd.func75 (by kernel_rfl) rfl #[] rfl (by (try simp only [List.map_toArray, List.map_cons, List.map_nil]); first | done | rfl | (simp only [List.length_drop, List.length_take]; rfl)) ?_; (with_reducible refine (q18.calls  t274 t277 _ A3.out).mono ?_); rintro e w24 ⟨v275, rfl, ho0, hb⟩; refine ⟨_, rfl, ?_⟩; have n0_ := aS (Kd.N_elder' (by (with_reducible repeat (first | apply nA | apply nN | apply nD)); exact HO269.out) (Kd.N_base ho0) hb); have n1_ := aS (Kd.N_lower (Kd.N_mono (ok' := fun k_ => some k_ ≠ (.slice Ao22 t267.length co22 : Value).ownBlock) ho0 (fun k_ hk_ => (Kd.fresh' (Kd.N_lt (by (with_reducible repeat (first | apply nA | apply nN | apply nD)); exact HO269.out)) k_ hk_))) (q0k (by repeat (first | (with_reducible first | exact HB.out | apply bA | apply bN | apply bD) | exact HB.out)))); have n2_ := aS (q09 (by repeat (first | (with_reducible first | exact HB.out | apply bA | apply bN | apply bD) | exact HB.out)) hb); clear HO269; clear HB; have HO269 := n0_; have HO276 := n1_; have HB := n2_; clear n0_ n1_ n2_; (try clear hb); (try clear hb2); (try clear hk); (try clear hi); (try clear ho0); obtain ⟨Ao25, co25, eo25⟩ := Kd.N_slice HO276.out; subst eo25) | ((with_reducible refine q0l (f := 23) rfl ?_); refine q1d (some 14) rfl rfl Tryd.func23 (by kernel_rfl) rfl #[.agg #[.slice Ao25 t274.length co25, .bool t277], .int .i64 1, .int .i64 2] rfl (by (try simp only [List.map_toArray, List.map_cons, List.map_nil]); first | done | rfl | (simp only [List.length_drop, List.length_take]; rfl)) ?_; (with_reducible refine (q1m.calls k _ _ t274 t277 1 2 t278 t279 _ ?side1 ?side2 A4.out).mono ?_); (case side1 => repeat (first | exact (Kd.N_reads' HO276.out).2.2 | (with_reducible refine cA ?_ _) | (with_reducible refine cN ?_ _) | (with_reducible refine cD ?_))); (case side2 => exact (Kd.N_reads' HO276.out).2.1); rintro e w26 ⟨rfl, hb⟩; refine ⟨_, rfl, ?_⟩; have n0_ := aS (Kd.N_below (by (with_reducible repeat (first | apply nA | apply nN | apply nD)); exact HO269.out) hb); have n1_ := aS (Kd.N_below (by (with_reducible repeat (first | apply nA | apply nN | apply nD)); exact HO276.out) hb); have n2_ := aS (q09 (by repeat (first | (with_reducible first | exact HB.out | apply bA | apply bN | apply bD) | exact HB.out)) hb); clear HO269; clear HO276; clear HB; have HO269 := n0_; have HO276 := n1_; have HB := n2_; clear n0_ n1_ n2_; (try clear hb); (try clear hb2); (try clear hk); (try clear hi)))
    go_ret
    exact ⟨by first | rfl | (simp [q0b, q0a] <;> rfl) | (simp [*, q0b, q0a] <;> rfl), by repeat (first | (with_reducible first | exact HB.out | apply bA | apply bN | apply bD) | exact HB.out)⟩
  ·replace c6 := Bool.eq_false_iff.mpr c6
   subst c6
   have H1 : (some false) = some r := by rw [if_neg (show ¬ (false = true) by decide)] at H; exact H
   clear H
   have H := H1
   clear H1
   obtain rfl := Option.some.inj H
   go_enter Tryd.func20, Tryd.ntmps20
   go_wp2_with (first | ((with_reducible refine q0l (f := 75) rfl ?_); refine q1d (some 7) rfl rfl Tryd.func75 (by kernel_rfl) rfl #[] rfl (by (try simp only [List.map_toArray, List.map_cons, List.map_nil]); first | done | rfl | (simp only [List.length_drop, List.length_take]; rfl)) ?_; (with_reducible refine (q18.calls  t267 t270 _ A1.out).mono ?_); rintro e w27 ⟨v268, rfl, ho0, hb⟩; refine ⟨_, rfl, ?_⟩; have n0_ := aS (Kd.N_lower (Kd.N_mono (ok' := fun k_ => True) ho0 (fun k_ hk_ => trivial)) (q0k (by repeat (first | (with_reducible first | exact HB.out | apply bA | apply bN | apply bD) | exact HB.out)))); have n1_ := aS (q09 (by repeat (first | (with_reducible first | exact HB.out | apply bA | apply bN | apply bD) | exact HB.out)) hb); clear HB; have HO269 := n0_; have HB := n1_; clear n0_ n1_; (try clear hb); (try clear hb2); (try clear hk); (try clear hi); (try clear ho0); obtain ⟨Ao28, co28, eo28⟩ := Kd.N_slice HO269.out; subst eo28) | ((with_reducible refine q0l (f := 16) rfl ?_); refine q1d (some 8) rfl rfl Tryd.func16 (by kernel_rfl) rfl #[.agg #[.slice Ao28 t267.length co28, .bool t270], .int .i64 1, .int .i64 1] rfl (by (try simp only [List.map_toArray, List.map_cons, List.map_nil]); first | done | rfl | (simp only [List.length_drop, List.length_take]; rfl)) ?_; (with_reducible refine (q1k.calls k _ _ t267 t270 1 1 t271 false t273 _ ?side1 ?side2 A2.out).mono ?_); (case side1 => repeat (first | exact (Kd.N_reads' HO269.out).2.2 | (with_reducible refine cA ?_ _) | (with_reducible refine cN ?_ _) | (with_reducible refine cD ?_))); (case side2 => exact (Kd.N_reads' HO269.out).2.1); rintro e w29 ⟨rfl, hb⟩; refine ⟨_, rfl, ?_⟩; have n0_ := aS (Kd.N_below (by (with_reducible repeat (first | apply nA | apply nN | apply nD)); exact HO269.out) hb); have n1_ := aS (q09 (by repeat (first | (with_reducible first | exact HB.out | apply bA | apply bN | apply bD) | exact HB.out)) hb); clear HO269; clear HB; have HO269 := n0_; have HB := n1_; clear n0_ n1_; (try clear hb); (try clear hb2); (try clear hk); (try clear hi)) | ((with_reducible refine q0l (f := 75) rfl ?_); refine q1d (some 13) rfl rfl Tryd.func75 (by kernel_rfl) rfl #[] rfl (by (try simp only [List.map_toArray, List.map_cons, List.map_nil]); first | done | rfl | (simp only [List.length_drop, List.length_take]; rfl)) ?_; (with_reducible refine (q18.calls  t274 t277 _ A3.out).mono ?_); rintro e w30 ⟨v275, rfl, ho0, hb⟩; refine ⟨_, rfl, ?_⟩; have n0_ := aS (Kd.N_elder' (by (with_reducible repeat (first | apply nA | apply nN | apply nD)); exact HO269.out) (Kd.N_base ho0) hb); have n1_ := aS (Kd.N_lower (Kd.N_mono (ok' := fun k_ => some k_ ≠ (.slice Ao28 t267.length co28 : Value).ownBlock) ho0 (fun k_ hk_ => (Kd.fresh' (Kd.N_lt (by (with_reducible repeat (first | apply nA | apply nN | apply nD)); exact HO269.out)) k_ hk_))) (q0k (by repeat (first | (with_reducible first | exact HB.out | apply bA | apply bN | apply bD) | exact HB.out)))); have n2_ := aS (q09 (by repeat (first | (with_reducible first | exact HB.out | apply bA | apply bN | apply bD) | exact HB.out)) hb); clear HO269; clear HB; have HO269 := n0_; have HO276 := n1_; have HB := n2_; clear n0_ n1_ n2_; (try clear hb); (try clear hb2); (try clear hk); (try clear hi); (try clear ho0); obtain ⟨Ao31, co31, eo31⟩ := Kd.N_slice HO276.out; subst eo31) | ((with_reducible refine q0l (f := 23) rfl ?_); refine q1d (some 14) rfl rfl Tryd.func23 (by kernel_rfl) rfl #[.agg #[.slice Ao31 t274.length co31, .bool t277], .int .i64 1, .int .i64 2] rfl (by (try simp only [List.map_toArray, List.map_cons, List.map_nil]); first | done | rfl | (simp only [List.length_drop, List.length_take]; rfl)) ?_; (with_reducible refine (q1m.calls k _ _ t274 t277 1 2 t278 t279 _ ?side1 ?side2 A4.out).mono ?_); (case side1 => repeat (first | exact (Kd.N_reads' HO276.out).2.2 | (with_reducible refine cA ?_ _) | (with_reducible refine cN ?_ _) | (with_reducible refine cD ?_))); (case side2 => exact (Kd.N_reads' HO276.out).2.1); rintro e w32 ⟨rfl, hb⟩; refine ⟨_, rfl, ?_⟩; have n0_ := aS (Kd.N_below (by (with_reducible repeat (first | apply nA | apply nN | apply nD)); exact HO269.out) hb); have n1_ := aS (Kd.N_below (by (with_reducible repeat (first | apply nA | apply nN | apply nD)); exact HO276.out) hb); have n2_ := aS (q09 (by repeat (first | (with_reducible first | exact HB.out | apply bA | apply bN | apply bD) | exact HB.out)) hb); clear HO269; clear HO276; clear HB; have HO269 := n0_; have HO276 := n1_; have HB := n2_; clear n0_ n1_ n2_; (try clear hb); (try clear hb2); (try clear hk); (try clear hi)))
   go_ret
   exact ⟨by first | rfl | (simp [q0b, q0a] <;> rfl) | (simp [*, q0b, q0a] <;> rfl), by repeat (first | (with_reducible first | exact HB.out | apply bA | apply bN | apply bD) | exact HB.out)⟩
 ·rw [if_neg c5] at H
  have c5b0 : (t271 == 2) = false := beq_eq_false_iff_ne.mpr c5
  have c5b1 : (t271 != 2) = true := bne_iff_ne.mpr c5
  obtain rfl := Option.some.inj H
  go_enter Tryd.func20, Tryd.ntmps20
  go_wp2_with (first | ((with_reducible refine q0l (f := 75) rfl ?_); refine q1d (some 7) rfl rfl Tryd.func75 (by kernel_rfl) rfl #[] rfl (by (try simp only [List.map_toArray, List.map_cons, List.map_nil]); first | done | rfl | (simp only [List.length_drop, List.length_take]; rfl)) ?_; (with_reducible refine (q18.calls  t267 t270 _ A1.out).mono ?_); rintro e w33 ⟨v268, rfl, ho0, hb⟩; refine ⟨_, rfl, ?_⟩; have n0_ := aS (Kd.N_lower (Kd.N_mono (ok' := fun k_ => True) ho0 (fun k_ hk_ => trivial)) (q0k (by repeat (first | (with_reducible first | exact HB.out | apply bA | apply bN | apply bD) | exact HB.out)))); have n1_ := aS (q09 (by repeat (first | (with_reducible first | exact HB.out | apply bA | apply bN | apply bD) | exact HB.out)) hb); clear HB; have HO269 := n0_; have HB := n1_; clear n0_ n1_; (try clear hb); (try clear hb2); (try clear hk); (try clear hi); (try clear ho0); obtain ⟨Ao34, co34, eo34⟩ := Kd.N_slice HO269.out; subst eo34) | ((with_reducible refine q0l (f := 16) rfl ?_); refine q1d (some 8) rfl rfl Tryd.func16 (by kernel_rfl) rfl #[.agg #[.slice Ao34 t267.length co34, .bool t270], .int .i64 1, .int .i64 1] rfl (by (try simp only [List.map_toArray, List.map_cons, List.map_nil]); first | done | rfl | (simp only [List.length_drop, List.length_take]; rfl)) ?_; (with_reducible refine (q1k.calls k _ _ t267 t270 1 1 t271 t272 t273 _ ?side1 ?side2 A2.out).mono ?_); (case side1 => repeat (first | exact (Kd.N_reads' HO269.out).2.2 | (with_reducible refine cA ?_ _) | (with_reducible refine cN ?_ _) | (with_reducible refine cD ?_))); (case side2 => exact (Kd.N_reads' HO269.out).2.1); rintro e w35 ⟨rfl, hb⟩; refine ⟨_, rfl, ?_⟩; have n0_ := aS (Kd.N_below (by (with_reducible repeat (first | apply nA | apply nN | apply nD)); exact HO269.out) hb); have n1_ := aS (q09 (by repeat (first | (with_reducible first | exact HB.out | apply bA | apply bN | apply bD) | exact HB.out)) hb); clear HO269; clear HB; have HO269 := n0_; have HB := n1_; clear n0_ n1_; (try clear hb); (try clear hb2); (try clear hk); (try clear hi)) | ((with_reducible refine q0l (f := 75) rfl ?_); refine q1d (some 13) rfl rfl Tryd.func75 (by kernel_rfl) rfl #[] rfl (by (try simp only [List.map_toArray, List.map_cons, List.map_nil]); first | done | rfl | (simp only [List.length_drop, List.length_take]; rfl)) ?_; (with_reducible refine (q18.calls  t274 t277 _ A3.out).mono ?_); rintro e w36 ⟨v275, rfl, ho0, hb⟩; refine ⟨_, rfl, ?_⟩; have n0_ := aS (Kd.N_elder' (by (with_reducible repeat (first | apply nA | apply nN | apply nD)); exact HO269.out) (Kd.N_base ho0) hb); have n1_ := aS (Kd.N_lower (Kd.N_mono (ok' := fun k_ => some k_ ≠ (.slice Ao34 t267.length co34 : Value).ownBlock) ho0 (fun k_ hk_ => (Kd.fresh' (Kd.N_lt (by (with_reducible repeat (first | apply nA | apply nN | apply nD)); exact HO269.out)) k_ hk_))) (q0k (by repeat (first | (with_reducible first | exact HB.out | apply bA | apply bN | apply bD) | exact HB.out)))); have n2_ := aS (q09 (by repeat (first | (with_reducible first | exact HB.out | apply bA | apply bN | apply bD) | exact HB.out)) hb); clear HO269; clear HB; have HO269 := n0_; have HO276 := n1_; have HB := n2_; clear n0_ n1_ n2_; (try clear hb); (try clear hb2); (try clear hk); (try clear hi); (try clear ho0); obtain ⟨Ao37, co37, eo37⟩ := Kd.N_slice HO276.out; subst eo37) | ((with_reducible refine q0l (f := 23) rfl ?_); refine q1d (some 14) rfl rfl Tryd.func23 (by kernel_rfl) rfl #[.agg #[.slice Ao37 t274.length co37, .bool t277], .int .i64 1, .int .i64 2] rfl (by (try simp only [List.map_toArray, List.map_cons, List.map_nil]); first | done | rfl | (simp only [List.length_drop, List.length_take]; rfl)) ?_; (with_reducible refine (q1m.calls k _ _ t274 t277 1 2 t278 t279 _ ?side1 ?side2 A4.out).mono ?_); (case side1 => repeat (first | exact (Kd.N_reads' HO276.out).2.2 | (with_reducible refine cA ?_ _) | (with_reducible refine cN ?_ _) | (with_reducible refine cD ?_))); (case side2 => exact (Kd.N_reads' HO276.out).2.1); rintro e w38 ⟨rfl, hb⟩; refine ⟨_, rfl, ?_⟩; have n0_ := aS (Kd.N_below (by (with_reducible repeat (first | apply nA | apply nN | apply nD)); exact HO269.out) hb); have n1_ := aS (Kd.N_below (by (with_reducible repeat (first | apply nA | apply nN | apply nD)); exact HO276.out) hb); have n2_ := aS (q09 (by repeat (first | (with_reducible first | exact HB.out | apply bA | apply bN | apply bD) | exact HB.out)) hb); clear HO269; clear HO276; clear HB; have HO269 := n0_; have HO276 := n1_; have HB := n2_; clear n0_ n1_ n2_; (try clear hb); (try clear hb2); (try clear hk); (try clear hi)))
  go_ret
  exact ⟨by first | rfl | (simp [q0b, q0a] <;> rfl) | (simp [*, q0b, q0a] <;> rfl), by repeat (first | (with_reducible first | exact HB.out | apply bA | apply bN | apply bD) | exact HB.out)⟩
end Go.Proofs.YthjnallbbhnndaaDoor.XWk
namespace Go.Proofs.YthjnallbbhnndaaDoor.XWk
open Go.Proofs.YthjnallbbhnndaaDoor.Short Go.RowKit Go.Proofs.YthjnallbbhnndaaDoorW.PrintWords Go.Proofs.YthjnallbbhnndaaDoorW.PrintLast Go.Proofs.YthjnallbbhnndaaDoorW.PrintMore
attribute [local go_sem] q27 q25 q2l q2k q1w q1v q26 q24   -- for this text's walks alone
set_option linter.unusedVariables false
set_option linter.unusedSimpArgs false
mutual
def q07.j0 : Nat → Int → Int → Int → Bool → Int → Int → Int → Bool → List (S43) → Bool → Option (Bool)
 | 0, _, _, _, _, _, _, _, _, _, _ => none
 | k + 1, x1, x2, x7, x8, x9, x10, x11, x33, x281000, x281001 => if x33 = true then (q07.j1 k x1 x2 x7 x8 x9 1 x11 x281000 x281001) else (q07.j1 k x1 x2 x7 x8 x9 x10 x11 x281000 x281001)
def q07.j1 : Nat → Int → Int → Int → Bool → Int → Int → Int → List (S43) → Bool → Option (Bool)
 | 0, _, _, _, _, _, _, _, _, _ => none
 | k + 1, x1, x2, x7, x8, x9, x10, x11, x281000, x281001 => if x10 = 0 then ((q06.f k x281000 x281001 (([x1] : List Int))).bind fun t292 => (q07.j2 k x1 x2 x7 x8 x9 t292 x11 x281000 x281001)) else (q07.j2 k x1 x2 x7 x8 x9 x10 x11 x281000 x281001)
def q07.j2 : Nat → Int → Int → Int → Bool → Int → Int → Int → List (S43) → Bool → Option (Bool)
 | 0, _, _, _, _, _, _, _, _, _ => none
 | k + 1, x1, x2, x7, x8, x9, x10, x11, x281000, x281001 => if x10 = 0 then ((q0n.f k x281000 x281001 x1 x2).bind fun t293 => ((q0m.f k).bind fun t294 => (if t294 = true then (if x7 = (mx t293 0) then (if (x8 == (decide (t293 ≥ 0))) = true then (some (x9 == x10)) else (some false)) else (some false)) else (some false)))) else ((q0m.f k).bind fun t295 => (if t295 = true then (if x7 = (mx x11 0) then (if (x8 == (decide (x11 ≥ 0))) = true then (some (x9 == x10)) else (some false)) else (some false)) else (some false)))
end
def q07.f (k : Nat) (l0_0 : List (S43)) (a0_1 : Bool) (a1 : Int) (a2 : Int) : Option (Bool) := (q1o.f l0_0 a0_1 60).bind fun bt281 => ((q1k.f k bt281.1 bt281.2 a1 a2).bind fun bt285 => ((q03.f k bt281.1 bt281.2).bind fun t288 => (if t288 = 0 then (if a2 < 1 then (q07.j0 k a1 a2 bt285.1 bt285.2.1 bt285.2.2 t288 (-1) true bt281.1 bt281.2) else (q07.j0 k a1 a2 bt285.1 bt285.2.1 bt285.2.2 t288 (-1) (decide (a2 > 8)) bt281.1 bt281.2)) else (q07.j0 k a1 a2 bt285.1 bt285.2.1 bt285.2.2 t288 (-1) false bt281.1 bt281.2))))
theorem q07.mono_l : ∀ k, (∀ y0 y1 y2 y3 y4 y5 y6 y7 y8 y9, LeO (q07.j0 k y0 y1 y2 y3 y4 y5 y6 y7 y8 y9) (q07.j0 (k + 1) y0 y1 y2 y3 y4 y5 y6 y7 y8 y9)) ∧ (∀ y0 y1 y2 y3 y4 y5 y6 y7 y8, LeO (q07.j1 k y0 y1 y2 y3 y4 y5 y6 y7 y8) (q07.j1 (k + 1) y0 y1 y2 y3 y4 y5 y6 y7 y8)) ∧ (∀ y0 y1 y2 y3 y4 y5 y6 y7 y8, LeO (q07.j2 k y0 y1 y2 y3 y4 y5 y6 y7 y8) (q07.j2 (k + 1) y0 y1 y2 y3 y4 y5 y6 y7 y8))
 | 0 => ⟨fun _ _ _ _ _ _ _ _ _ _ r h => by simp [q07.j0] at h, fun _ _ _ _ _ _ _ _ _ r h => by simp [q07.j1] at h, fun _ _ _ _ _ _ _ _ _ r h => by simp [q07.j2] at h⟩
 | k + 1 => by
  obtain ⟨ih0, ih1, ih2⟩ := q07.mono_l k
  refine ⟨?_, ?_, ?_⟩
  ·intro y0 y1 y2 y3 y4 y5 y6 y7 y8 y9
   unfold q07.j0
   repeat' first
   | (with_reducible exact ih0 _ _ _ _ _ _ _ _ _ _)
   | (with_reducible exact ih1 _ _ _ _ _ _ _ _ _)
   | (with_reducible exact ih2 _ _ _ _ _ _ _ _ _)
   | (with_reducible exact q0m.mono _)
   | (with_reducible exact q03.mono _ _ _)
   | (with_reducible exact q06.mono _ _ _ _)
   | (with_reducible exact q0n.mono _ _ _ _ _)
   | (with_reducible exact q1k.mono _ _ _ _ _)
   | (with_reducible exact LeO.refl _)
   | (with_reducible exact LeO.none _)
   | (with_reducible refine LeO.ite ?_ ?_)
   | (with_reducible refine LeO.bind ?_ (fun _ => ?_))
   | exact ih0 _ _ _ _ _ _ _ _ _ _
   | exact ih1 _ _ _ _ _ _ _ _ _
   | exact ih2 _ _ _ _ _ _ _ _ _
   | exact q0m.mono _
   | exact q03.mono _ _ _
   | exact q06.mono _ _ _ _
   | exact q0n.mono _ _ _ _ _
   | exact q1k.mono _ _ _ _ _
   | exact LeO.none _
   | refine LeO.ite ?_ ?_
   | refine LeO.bind ?_ (fun _ => ?_)
  ·intro y0 y1 y2 y3 y4 y5 y6 y7 y8
   unfold q07.j1
   repeat' first
   | (with_reducible exact ih0 _ _ _ _ _ _ _ _ _ _)
   | (with_reducible exact ih1 _ _ _ _ _ _ _ _ _)
   | (with_reducible exact ih2 _ _ _ _ _ _ _ _ _)
   | (with_reducible exact q0m.mono _)
   | (with_reducible exact q03.mono _ _ _)
   | (with_reducible exact q06.mono _ _ _ _)
   | (with_reducible exact q0n.mono _ _ _ _ _)
   | (with_reducible exact q1k.mono _ _ _ _ _)
   | (with_reducible exact LeO.refl _)
   | (with_reducible exact LeO.none _)
   | (with_reducible refine LeO.ite ?_ ?_)
   | (with_reducible refine LeO.bind ?_ (fun _ => ?_))
   | exact ih0 _ _ _ _ _ _ _ _ _ _
   | exact ih1 _ _ _ _ _ _ _ _ _
   | exact ih2 _ _ _ _ _ _ _ _ _
   | exact q0m.mono _
   | exact q03.mono _ _ _
   | exact q06.mono _ _ _ _
   | exact q0n.mono _ _ _ _ _
   | exact q1k.mono _ _ _ _ _
   | exact LeO.none _
   | refine LeO.ite ?_ ?_
   | refine LeO.bind ?_ (fun _ => ?_)
  ·intro y0 y1 y2 y3 y4 y5 y6 y7 y8
   unfold q07.j2
   repeat' first
   | (with_reducible exact ih0 _ _ _ _ _ _ _ _ _ _)
   | (with_reducible exact ih1 _ _ _ _ _ _ _ _ _)
   | (with_reducible exact ih2 _ _ _ _ _ _ _ _ _)
   | (with_reducible exact q0m.mono _)
   | (with_reducible exact q03.mono _ _ _)
   | (with_reducible exact q06.mono _ _ _ _)
   | (with_reducible exact q0n.mono _ _ _ _ _)
   | (with_reducible exact q1k.mono _ _ _ _ _)
   | (with_reducible exact LeO.refl _)
   | (with_reducible exact LeO.none _)
   | (with_reducible refine LeO.ite ?_ ?_)
   | (with_reducible refine LeO.bind ?_ (fun _ => ?_))
   | exact ih0 _ _ _ _ _ _ _ _ _ _
   | exact ih1 _ _ _ _ _ _ _ _ _
   | exact ih2 _ _ _ _ _ _ _ _ _
   | exact q0m.mono _
   | exact q03.mono _ _ _
   | exact q06.mono _ _ _ _
   | exact q0n.mono _ _ _ _ _
   | exact q1k.mono _ _ _ _ _
   | exact LeO.none _
   | refine LeO.ite ?_ ?_
   | refine LeO.bind ?_ (fun _ => ?_)
theorem q07.mono : ∀ a0 a1 a2 a3 k, LeO (q07.f k a0 a1 a2 a3) (q07.f (k + 1) a0 a1 a2 a3) := by
 intro a0 a1 a2 a3 k
 obtain ⟨ih0, ih1, ih2⟩ := q07.mono_l k
 unfold q07.f
 repeat' first
  | (with_reducible exact ih0 _ _ _ _ _ _ _ _ _ _)
  | (with_reducible exact ih1 _ _ _ _ _ _ _ _ _)
  | (with_reducible exact ih2 _ _ _ _ _ _ _ _ _)
  | (with_reducible exact q0m.mono _)
  | (with_reducible exact q03.mono _ _ _)
  | (with_reducible exact q06.mono _ _ _ _)
  | (with_reducible exact q0n.mono _ _ _ _ _)
  | (with_reducible exact q1k.mono _ _ _ _ _)
  | (with_reducible exact LeO.refl _)
  | (with_reducible exact LeO.none _)
  | (with_reducible refine LeO.ite ?_ ?_)
  | (with_reducible refine LeO.bind ?_ (fun _ => ?_))
  | exact ih0 _ _ _ _ _ _ _ _ _ _
  | exact ih1 _ _ _ _ _ _ _ _ _
  | exact ih2 _ _ _ _ _ _ _ _ _
  | exact q0m.mono _
  | exact q03.mono _ _ _
  | exact q06.mono _ _ _ _
  | exact q0n.mono _ _ _ _ _
  | exact q1k.mono _ _ _ _ _
  | exact LeO.none _
  | refine LeO.ite ?_ ?_
  | refine LeO.bind ?_ (fun _ => ?_)
set_option maxHeartbeats 8000000 in
set_option maxRecDepth 100000 in
theorem q07.calls (k : Nat) (A0_0 : Option Addr) (c0_0 : Nat) (l0_0 : List (S43)) (a0_1 : Bool) (a1 : Int) (a2 : Int) (r : Bool) (w : World) (hr0_0 : Kd.C k43 w A0_0 l0_0.length l0_0) (hc0_0 : l0_0.length ≤ c0_0) (h : q07.f k l0_0 a0_1 a1 a2 = some r) :
 Calls Tryd.prog 3 #[.agg #[.slice A0_0 l0_0.length c0_0, .bool a0_1], .int .i64 a1, .int .i64 a2] w fun e w' => e = .returned (.bool r) ∧ Below w.heap.size w w' := by
 have hu24 := Tryd.underlying24
 have HR0_0 := aS hr0_0
 have HC0_0 := aS hc0_0
 clear hr0_0 hc0_0
 have HB := aS (Below.refl w.heap.size w)
 have H : ((q1o.f l0_0 a0_1 60).bind fun bt281 => ((q1k.f k bt281.1 bt281.2 a1 a2).bind fun bt285 => ((q03.f k bt281.1 bt281.2).bind fun t288 => (if t288 = 0 then (if a2 < 1 then (q07.j0 k a1 a2 bt285.1 bt285.2.1 bt285.2.2 t288 (-1) true bt281.1 bt281.2) else (q07.j0 k a1 a2 bt285.1 bt285.2.1 bt285.2.2 t288 (-1) (decide (a2 > 8)) bt281.1 bt281.2)) else (q07.j0 k a1 a2 bt285.1 bt285.2.1 bt285.2.2 t288 (-1) false bt281.1 bt281.2))))) = some r := h
 clear h
 replace H := Option.bind_eq_some_iff.mp H
 obtain ⟨⟨t281, t284⟩, A40, H⟩ := H
 replace H : ((q1k.f k t281 t284 a1 a2).bind fun bt285 => ((q03.f k t281 t284).bind fun t288 => (if t288 = 0 then (if a2 < 1 then (q07.j0 k a1 a2 bt285.1 bt285.2.1 bt285.2.2 t288 (-1) true t281 t284) else (q07.j0 k a1 a2 bt285.1 bt285.2.1 bt285.2.2 t288 (-1) (decide (a2 > 8)) t281 t284)) else (q07.j0 k a1 a2 bt285.1 bt285.2.1 bt285.2.2 t288 (-1) false t281 t284)))) = some r := H
 have A4 := aS A40
 clear A40
 replace H := Option.bind_eq_some_iff.mp H
 obtain ⟨⟨t285, t286, t287⟩, A50, H⟩ := H
 replace H : ((q03.f k t281 t284).bind fun t288 => (if t288 = 0 then (if a2 < 1 then (q07.j0 k a1 a2 t285 t286 t287 t288 (-1) true t281 t284) else (q07.j0 k a1 a2 t285 t286 t287 t288 (-1) (decide (a2 > 8)) t281 t284)) else (q07.j0 k a1 a2 t285 t286 t287 t288 (-1) false t281 t284))) = some r := H
 have A5 := aS A50
 clear A50
 replace H := Option.bind_eq_some_iff.mp H
 obtain ⟨t288, A60, H⟩ := H
 replace H : (if t288 = 0 then (if a2 < 1 then (q07.j0 k a1 a2 t285 t286 t287 t288 (-1) true t281 t284) else (q07.j0 k a1 a2 t285 t286 t287 t288 (-1) (decide (a2 > 8)) t281 t284)) else (q07.j0 k a1 a2 t285 t286 t287 t288 (-1) false t281 t284)) = some r := H
 have A6 := aS A60
 clear A60
 have HC7 := aS H
 clear H
 go_enter Tryd.func3, Tryd.ntmps3
 go_upto_region 4 with (first | ((with_reducible refine q15 (N := 3) rfl ?_); (try (refine q1t (by rfl) ?_; dsimp only)); refine q0y ?hg (N := 3) ?hd (cs := #[.slice A0_0 l0_0.length c0_0, .bool a0_1]) (t := 24) ?hr ?_; (case hd => rfl); (case hg => rfl); (case hr => first | (go_simp; done) | (go_simp; rfl)); intro gb280 hg w8 hbox hb; have n0_ := aS (q09 (by repeat (first | (with_reducible first | exact HB.out | apply bA | apply bN | apply bD) | exact HB.out)) hb); have n1_ := aS (hbox); have n2_ := aS ((by rw [hg]; exact (q0k (by repeat (first | (with_reducible first | exact HB.out | apply bA | apply bN | apply bD) | exact HB.out))) : w.heap.size ≤ gb280)); have n3_ := aS ((by rw [hg]; exact (q0k (by repeat (first | (with_reducible first | exact HB.out | apply bA | apply bN | apply bD) | exact HB.out))) : w.heap.size ≤ gb280)); clear HB; have HB := n0_; have BK280 := n1_; have GW280 := n2_; have GE280 := n3_; clear n0_ n1_ n2_ n3_; clear hb hbox hg; have hcz9_0 : w8.cell? ⟨gb280, 0, none⟩ = some (.slice A0_0 l0_0.length c0_0) := (q02 BK280.out 0).trans rfl; have hcz9_1 : w8.cell? ⟨gb280, 1, none⟩ = some (.bool a0_1) := (q02 BK280.out 1).trans rfl; have hfz9_0 := q01 BK280.out 0; have hfz9_1 := q01 BK280.out 1) | ((with_reducible refine q0l (f := 15) rfl ?_); refine q1d (some 13) rfl rfl Tryd.func15 (by kernel_rfl) rfl #[.agg #[.slice A0_0 l0_0.length c0_0, .bool a0_1], .int .i64 60] rfl (by (try simp only [List.map_toArray, List.map_cons, List.map_nil]); first | done | rfl | (simp only [List.length_drop, List.length_take]; rfl)) ?_; (with_reducible refine (q1o.calls (fun k_ => k_ < w.heap.size) _ _ l0_0 a0_1 60 t281 t284 _ ?side1 A4.out).mono ?_); (case side1 => exact Kd.V_mk HC0_0.out (Kd.F_below (Kd.C_F k43_heap HR0_0.out) (by repeat (first | (with_reducible first | exact HB.out | apply bA | apply bN | apply bD | refine bS ?_ GE280.out) | exact HB.out)))); rintro e w10 ⟨v282, rfl, ho0, hb⟩; refine ⟨_, rfl, ?_⟩; have n0_ := aS (Kd.V_lower (Kd.V_mono (ok' := fun k_ => k_ ≠ gb280) ho0 (fun k_ hk_ => Or.elim hk_ (fun hs_ => fun e_ => Nat.not_le.2 hs_ (by rw [e_]; exact GW280.out)) (fun hn_ => (Kd.freshB (g := gb280) (o := .cells #[.slice A0_0 l0_0.length c0_0, .bool a0_1] 24 (0, 0)) (by (with_reducible repeat (first | refine kN ?_ _ | refine kD ?_ | refine kA ?_ _)); exact BK280.out) k_ hn_)))) (q0k (by repeat (first | (with_reducible first | exact HB.out | apply bA | apply bN | apply bD | refine bS ?_ GE280.out) | exact HB.out)))); have n1_ := aS (q16 (g := gb280) (o := .cells #[.slice A0_0 l0_0.length c0_0, .bool a0_1] 24 (0, 0)) (by (with_reducible repeat (first | refine kN ?_ _ | refine kD ?_ | refine kA ?_ _)); exact BK280.out) hb); have n2_ := aS (q09 (by repeat (first | (with_reducible first | exact HB.out | apply bA | apply bN | apply bD | refine bS ?_ GE280.out) | exact HB.out)) hb); clear BK280; clear HB; have HO283 := n0_; have BK280 := n1_; have HB := n2_; clear n0_ n1_ n2_; (try clear hb); (try clear hb2); (try clear hk); (try clear hi); (try clear ho0); obtain ⟨Ao11, co11, eo11⟩ := Kd.V_slice HO283.out; subst eo11; have hcz12_0 : w10.cell? ⟨gb280, 0, none⟩ = some (.slice A0_0 l0_0.length c0_0) := (q02 BK280.out 0).trans rfl; have hcz12_1 : w10.cell? ⟨gb280, 1, none⟩ = some (.bool a0_1) := (q02 BK280.out 1).trans rfl; have hfz12_0 := q01 BK280.out 0; have hfz12_1 := q01 BK280.out 1) | ((with_reducible refine q0l (f := 16) rfl ?_); refine q1d (some 18) rfl rfl Tryd.func16 (by kernel_rfl) rfl #[.agg #[.slice Ao11 t281.length co11, .bool t284], .int .i64 a1, .int .i64 a2] rfl (by (try simp only [List.map_toArray, List.map_cons, List.map_nil]); first | done | rfl | (simp only [List.length_drop, List.length_take]; rfl)) ?_; (with_reducible refine (q1k.calls k _ _ t281 t284 a1 a2 t285 t286 t287 _ ?side1 ?side2 A5.out).mono ?_); (case side1 => refine (Kd.V_reads' (e := 43) (base := w.heap.size) (ok := fun k_ => k_ ≠ gb280) (n := t281.length) (c := co11) ?_).2.2; exact (by (with_reducible repeat (first | apply vA | apply vN | apply vD)); exact (Kd.V_mono (Kd.V_far (p := ⟨gb280, 1, none⟩) (Kd.V_far (p := ⟨gb280, 0, none⟩) (Kd.V_mono HO283.out (fun k_ hk => (⟨hk, hk⟩ : _ ∧ k_ ≠ gb280))) (fun _ hk => hk.2) (.slice Ao11 t281.length co11)) (fun _ hk => hk.2) (.bool t284)) (fun _ h_ => h_.1)))); (case side2 => exact (Kd.V_reads' HO283.out).2.1); rintro e w13 ⟨rfl, hb⟩; refine ⟨_, rfl, ?_⟩; have n0_ := aS (Kd.V_below (by (with_reducible repeat (first | apply vA | apply vN | apply vD)); exact (Kd.V_mono (Kd.V_far (p := ⟨gb280, 1, none⟩) (Kd.V_far (p := ⟨gb280, 0, none⟩) (Kd.V_mono HO283.out (fun k_ hk => (⟨hk, hk⟩ : _ ∧ k_ ≠ gb280))) (fun _ hk => hk.2) (.slice Ao11 t281.length co11)) (fun _ hk => hk.2) (.bool t284)) (fun _ h_ => h_.1))) hb); have n1_ := aS (q16 (g := gb280) (o := .cells #[.slice Ao11 t281.length co11, .bool t284] 24 (0, 0)) (by (with_reducible repeat (first | refine kN ?_ _ | refine kD ?_ | refine kA ?_ _)); refine q1p (cs := #[.slice Ao11 t281.length co11, .bool a0_1]) ?_ 1 _ rfl; (with_reducible repeat (first | refine kN ?_ _ | refine kD ?_ | refine kA ?_ _)); refine q1p (cs := #[.slice A0_0 l0_0.length c0_0, .bool a0_1]) ?_ 0 _ rfl; (with_reducible repeat (first | refine kN ?_ _ | refine kD ?_ | refine kA ?_ _)); exact BK280.out) hb); have n2_ := aS (q09 (by repeat (first | (with_reducible first | exact HB.out | apply bA | apply bN | apply bD | refine bS ?_ GE280.out) | exact HB.out)) hb); clear HO283; clear BK280; clear HB; have HO283 := n0_; have BK280 := n1_; have HB := n2_; clear n0_ n1_ n2_; (try clear hb); (try clear hb2); (try clear hk); (try clear hi); have hcz14_0 : w13.cell? ⟨gb280, 0, none⟩ = some (.slice Ao11 t281.length co11) := (q02 BK280.out 0).trans rfl; have hcz14_1 : w13.cell? ⟨gb280, 1, none⟩ = some (.bool t284) := (q02 BK280.out 1).trans rfl; have hfz14_0 := q01 BK280.out 0; have hfz14_1 := q01 BK280.out 1) | ((with_reducible refine q0l (f := 17) rfl ?_); refine q1d (some 23) rfl rfl Tryd.func17 (by kernel_rfl) rfl #[.agg #[.slice Ao11 t281.length co11, .bool t284]] rfl (by (try simp only [List.map_toArray, List.map_cons, List.map_nil]); first | done | rfl | (simp only [List.length_drop, List.length_take]; rfl)) ?_; (with_reducible refine (q03.calls k _ _ t281 t284 t288 _ ?side1 ?side2 A6.out).mono ?_); (case side1 => repeat (first | exact (Kd.V_reads' HO283.out).2.2 | (with_reducible refine cA ?_ _) | (with_reducible refine cN ?_ _) | (with_reducible refine cD ?_))); (case side2 => exact (Kd.V_reads' HO283.out).2.1); rintro e w15 ⟨rfl, hb⟩; refine ⟨_, rfl, ?_⟩; have n0_ := aS (Kd.V_below (by (with_reducible repeat (first | apply vA | apply vN | apply vD)); exact HO283.out) hb); have n1_ := aS (q16 (g := gb280) (o := .cells #[.slice Ao11 t281.length co11, .bool t284] 24 (0, 0)) (by (with_reducible repeat (first | refine kN ?_ _ | refine kD ?_ | refine kA ?_ _)); exact BK280.out) hb); have n2_ := aS (q09 (by repeat (first | (with_reducible first | exact HB.out | apply bA | apply bN | apply bD | refine bS ?_ GE280.out) | exact HB.out)) hb); clear HO283; clear BK280; clear HB; have HO283 := n0_; have BK280 := n1_; have HB := n2_; clear n0_ n1_ n2_; (try clear hb); (try clear hb2); (try clear hk); (try clear hi)))
 (try simp only [Act.put, s1, s2, s3])
 go_cut [33] (fun v33 wc => ∃ (kq : Nat) (x33_6 : Bool), v33 = .bool x33_6 ∧ Aside0 (q07.j0 kq a1 a2 t285 t286 t287 t288 (-1) x33_6 t281 t284 = some r) ∧ Aside0 (kq ≤ k) ∧ Aside0 (Kd.V k43 43 wc w.heap.size (fun k_ => k_ ≠ gb280) (.slice Ao11 t281.length co11) t281) ∧ Aside0 (wc.heap[gb280]? = some (.cells #[(.slice Ao11 t281.length co11), .bool t284] 24 (0, 0))) ∧ Aside0 (Below w.heap.size w wc))
 case first =>
  have H := HC7.out
  clear HC7
  by_cases c16 : t288 = 0
  ·rw [if_pos c16] at H
   have c16b0 : (t288 == 0) = true := beq_iff_eq.mpr c16
   have c16b1 : (t288 != 0) = false := bne_eq_false_iff_eq.mpr c16
   clear c16
   (first | rw [c16b0] | (simp only [q1e, q1i]; rw [c16b0]) | skip)
   by_cases c17 : a2 < 1
   ·rw [if_pos c17] at H
    have c17b0 : decide (a2 < 1) = true := decide_eq_true c17
    clear c17
    have H' := aS H
    clear H
    go_wp2
    go_meet
    case rel => exact ⟨_, (true), (by first | rfl | (simp; done) | simp [*]), H', ⟨by first | omega | exact Nat.le_refl _⟩, ⟨by (with_reducible repeat (first | apply vA | apply vN | apply vD)); exact HO283.out⟩, ⟨by (with_reducible repeat (first | refine kN ?_ _ | refine kD ?_ | refine kA ?_ _)); exact BK280.out⟩, ⟨by repeat (first | (with_reducible first | exact HB.out | apply bA | apply bN | apply bD | refine bS ?_ GE280.out) | exact HB.out)⟩⟩
   ·rw [if_neg c17] at H
    have c17b0 : decide (a2 < 1) = false := decide_eq_false c17
    clear c17
    have H' := aS H
    clear H
    go_wp2
    go_meet
    case rel => exact ⟨_, (decide (a2 > 8)), (by first | rfl | (simp; done) | simp [*]), H', ⟨by first | omega | exact Nat.le_refl _⟩, ⟨by (with_reducible repeat (first | apply vA | apply vN | apply vD)); exact HO283.out⟩, ⟨by (with_reducible repeat (first | refine kN ?_ _ | refine kD ?_ | refine kA ?_ _)); exact BK280.out⟩, ⟨by repeat (first | (with_reducible first | exact HB.out | apply bA | apply bN | apply bD | refine bS ?_ GE280.out) | exact HB.out)⟩⟩
  ·rw [if_neg c16] at H
   have c16b0 : (t288 == 0) = false := beq_eq_false_iff_ne.mpr c16
   have c16b1 : (t288 != 0) = true := bne_iff_ne.mpr c16
   (first | rw [c16b0] | (simp only [q1e, q1i]; rw [c16b0]) | skip)
   have H' := aS H
   clear H
   go_wp2
   go_meet
   case rel => exact ⟨_, (false), (by first | rfl | (simp; done) | simp [*]), H', ⟨by first | omega | exact Nat.le_refl _⟩, ⟨by (with_reducible repeat (first | apply vA | apply vN | apply vD)); exact HO283.out⟩, ⟨by (with_reducible repeat (first | refine kN ?_ _ | refine kD ?_ | refine kA ?_ _)); exact BK280.out⟩, ⟨by repeat (first | (with_reducible first | exact HB.out | apply bA | apply bN | apply bD | refine bS ?_ GE280.out) | exact HB.out)⟩⟩
 case rest =>
  clear HC7
  try clear c1
  try clear p2
  try clear c3
  try clear c15
  try clear c16
  try clear c16b0
  try clear c16b1
  try clear c17
  try clear c17b0
  try clear hcz12_0
  try clear hcz12_1
  try clear hcz14_0
  try clear hcz14_1
  try clear hcz9_0
  try clear hcz9_1
  try clear hfz12_0
  try clear hfz12_1
  try clear hfz14_0
  try clear hfz14_1
  try clear hfz9_0
  try clear hfz9_1
  obtain ⟨kq, x33_6, rfl, HA, HJ6, HO_281000, BK280, HB⟩ := hcut
  cases kq with
  | zero => exact absurd HA.out (by simp [q07.j0])
  | succ kj6 =>
   have H := HA.out
   clear HA
   simp only [q07.j0] at H
   have HC18 := aS H
   clear H
   go_upto_if 33 with (fail)
   go_cut [10] (fun v10 wc => ∃ (kq : Nat) (x10_17 : Int), v10 = .int .i64 x10_17 ∧ Aside0 (q07.j1 kq a1 a2 t285 t286 t287 x10_17 (-1) t281 t284 = some r) ∧ Aside0 (kq ≤ kj6) ∧ Aside0 (Kd.V k43 43 wc w.heap.size (fun k_ => k_ ≠ gb280) (.slice Ao11 t281.length co11) t281) ∧ Aside0 (wc.heap[gb280]? = some (.cells #[(.slice Ao11 t281.length co11), .bool t284] 24 (0, 0))) ∧ Aside0 (Below w.heap.size w wc))
   case first =>
    have H := HC18.out
    clear HC18
    by_cases c19 : x33_6 = true
    ·subst c19
     have H1 : (q07.j1 kj6 a1 a2 t285 t286 t287 1 (-1) t281 t284) = some r := by rw [if_pos rfl] at H; exact H
     clear H
     have H := H1
     clear H1
     have H' := aS H
     clear H
     go_wp2
     go_meet
     case rel => exact ⟨_, (1), (by first | rfl | (simp; done) | simp [*]), H', ⟨by have := HJ6.out; first | omega | exact Nat.le_refl _⟩, ⟨by (with_reducible repeat (first | apply vA | apply vN | apply vD)); exact HO_281000.out⟩, ⟨by (with_reducible repeat (first | refine kN ?_ _ | refine kD ?_ | refine kA ?_ _)); exact BK280.out⟩, ⟨by repeat (first | (with_reducible first | exact HB.out | apply bA | apply bN | apply bD | refine bS ?_ GE280.out) | exact HB.out)⟩⟩
    ·replace c19 := Bool.eq_false_iff.mpr c19
     subst c19
     have H1 : (q07.j1 kj6 a1 a2 t285 t286 t287 t288 (-1) t281 t284) = some r := by rw [if_neg (show ¬ (false = true) by decide)] at H; exact H
     clear H
     have H := H1
     clear H1
     have H' := aS H
     clear H
     go_wp2
     go_meet
     case rel => exact ⟨_, (t288), (by first | rfl | (simp; done) | simp [*]), H', ⟨by have := HJ6.out; first | omega | exact Nat.le_refl _⟩, ⟨by (with_reducible repeat (first | apply vA | apply vN | apply vD)); exact HO_281000.out⟩, ⟨by (with_reducible repeat (first | refine kN ?_ _ | refine kD ?_ | refine kA ?_ _)); exact BK280.out⟩, ⟨by repeat (first | (with_reducible first | exact HB.out | apply bA | apply bN | apply bD | refine bS ?_ GE280.out) | exact HB.out)⟩⟩
   case rest =>
    clear HC18
    try clear c1
    try clear p2
    try clear c3
    try clear c15
    try clear c16
    try clear c16b0
    try clear c16b1
    try clear c17
    try clear c17b0
    try clear c19
    try clear hcz12_0
    try clear hcz12_1
    try clear hcz14_0
    try clear hcz14_1
    try clear hcz9_0
    try clear hcz9_1
    try clear hfz12_0
    try clear hfz12_1
    try clear hfz14_0
    try clear hfz14_1
    try clear hfz9_0
    try clear hfz9_1
    try clear p2
    obtain ⟨kq, x10_17, rfl, HA, HJ17, HO_281000, BK280, HB⟩ := hcut
    cases kq with
    | zero => exact absurd HA.out (by simp [q07.j1])
    | succ kj17 =>
     have H := HA.out
     clear HA
     simp only [q07.j1] at H
     have HC20 := aS H
     clear H
     go_upto_if 35 with (fail)
     go_cut [10] (fun v10 wc => ∃ (kq : Nat) (x10_19 : Int), v10 = .int .i64 x10_19 ∧ Aside0 (q07.j2 kq a1 a2 t285 t286 t287 x10_19 (-1) t281 t284 = some r) ∧ Aside0 (kq ≤ kj17) ∧ Aside0 (Kd.V k43 43 wc w.heap.size (fun k_ => k_ ≠ gb280) (.slice Ao11 t281.length co11) t281) ∧ Aside0 (wc.heap[gb280]? = some (.cells #[(.slice Ao11 t281.length co11), .bool t284] 24 (0, 0))) ∧ Aside0 (Below w.heap.size w wc))
     case first =>
      have H := HC20.out
      clear HC20
      by_cases c21 : x10_17 = 0
      ·rw [if_pos c21] at H
       have c21b0 : (x10_17 == 0) = true := beq_iff_eq.mpr c21
       have c21b1 : (x10_17 != 0) = false := bne_eq_false_iff_eq.mpr c21
       clear c21
       (first | rw [c21b0] | (simp only [q1e, q1i]; rw [c21b0]) | skip)
       obtain ⟨y289, hy289⟩ : ∃ y_ : List Int, y_ = (([a1] : List Int)) := ⟨_, rfl⟩
       replace H : ((q06.f kj17 t281 t284 y289).bind fun t292 => (q07.j2 kj17 a1 a2 t285 t286 t287 t292 (-1) t281 t284)) = some r := by first | (rw [hy289]; with_reducible exact H) | (have H2_ := (Option.bind_some _ _).symm.trans H; rw [hy289]; with_reducible exact H2_) | (have H2_ := (Option.bind_some _ _).symm.trans H; with_reducible exact H2_) | with_reducible exact H | (rw [hy289]; exact H) | exact H
       have Ny289 := aS hy289
       clear hy289
       replace H := Option.bind_eq_some_iff.mp H
       obtain ⟨t292, A220, H⟩ := H
       replace H : (q07.j2 kj17 a1 a2 t285 t286 t287 t292 (-1) t281 t284) = some r := H
       have A22 := aS A220
       clear A220
       have H' := aS H
       clear H
       have hcz23_0 : wc.cell? ⟨gb280, 0, none⟩ = some (.slice Ao11 t281.length co11) := (q02 BK280.out 0).trans rfl
       have hcz23_1 : wc.cell? ⟨gb280, 1, none⟩ = some (.bool t284) := (q02 BK280.out 1).trans rfl
       have hfz23_0 := q01 BK280.out 0
       have hfz23_1 := q01 BK280.out 1
       go_wp2_with (first | ((with_reducible refine q15 (N := 38) rfl ?_); (try (refine q1t (by rfl) ?_; dsimp only)); refine Kd.R_lit (Kd.int .i64) _ 3 ?hg (N := 38) ?hd (xs := ([a1] : List Int)) (inner := [.int .i64 a1]) (ok := fun _ => True) (okp := fun _ => True) ?hr ?hp (fun _ hk => hk) trivial (Below.refl _ _) (Nat.le_refl _) (by simp) ?_; (case hd => rfl); (case hg => rfl); (case hr => first | (go_simp; done) | (go_simp; rfl)); (case hp => exact (Reps.one (show Kd.M (Kd.int .i64) _ _ _ a1 [.int .i64 a1] from rfl) (Reps.none _ _))); intro v290 w24 ho25 hb hg_ hnew_; clear hg_ hnew_; (first | rw [← Ny289.out] at ho25 | (simp only [Int.reduceToNat] at ho25; rw [← Ny289.out] at ho25)); have n0_ := aS (Kd.V_elder' (by (with_reducible repeat (first | apply vA | apply vN | apply vD)); exact HO_281000.out) (Kd.R_base ho25) hb); have n1_ := aS (Kd.R_lower ho25 (q0k (by repeat (first | (with_reducible first | exact HB.out | apply bA | apply bN | apply bD | refine bS ?_ GE280.out) | exact HB.out)))); have n2_ := aS (q16 (g := gb280) (o := .cells #[.slice Ao11 t281.length co11, .bool t284] 24 (0, 0)) (by (with_reducible repeat (first | refine kN ?_ _ | refine kD ?_ | refine kA ?_ _)); exact BK280.out) hb); have n3_ := aS (q09 (by repeat (first | (with_reducible first | exact HB.out | apply bA | apply bN | apply bD | refine bS ?_ GE280.out) | exact HB.out)) hb); clear HO_281000; clear BK280; clear HB; have HO_281000 := n0_; have HO291 := n1_; have BK280 := n2_; have HB := n3_; clear n0_ n1_ n2_ n3_; clear hb ho25; obtain ⟨Ao26, co26, eo26⟩ := Kd.R_slice HO291.out; subst eo26) | ((with_reducible refine q0l (f := 18) rfl ?_); refine q1d (some 39) rfl rfl Tryd.func18 (by kernel_rfl) rfl #[.agg #[.slice Ao11 t281.length co11, .bool t284], .slice Ao26 y289.length co26] rfl (by (try simp only [List.map_toArray, List.map_cons, List.map_nil]); first | done | rfl | (simp only [List.length_drop, List.length_take]; rfl)) ?_; (with_reducible refine (q06.calls kj17 _ _ t281 t284 _ _ y289 t292 _ ?side1 ?side2 ?side3 ?side4 A22.out).mono ?_); (case side1 => repeat (first | exact (Kd.V_reads' HO_281000.out).2.2 | (with_reducible refine cA ?_ _) | (with_reducible refine cN ?_ _) | (with_reducible refine cD ?_))); (case side2 => exact (Kd.V_reads' HO_281000.out).2.1); (case side3 => repeat (first | exact (Kd.R_reads' HO291.out).2.2 | (with_reducible refine cA ?_ _) | (with_reducible refine cN ?_ _) | (with_reducible refine cD ?_))); (case side4 => exact (Kd.R_reads' HO291.out).2.1); rintro e w27 ⟨rfl, hb⟩; refine ⟨_, rfl, ?_⟩; have n0_ := aS (Kd.V_below (by (with_reducible repeat (first | apply vA | apply vN | apply vD)); exact HO_281000.out) hb); have n1_ := aS (Kd.R_below (by (with_reducible repeat (first | apply rA | apply rN | apply rD)); exact HO291.out) hb); have n2_ := aS (q16 (g := gb280) (o := .cells #[.slice Ao11 t281.length co11, .bool t284] 24 (0, 0)) (by (with_reducible repeat (first | refine kN ?_ _ | refine kD ?_ | refine kA ?_ _)); exact BK280.out) hb); have n3_ := aS (q09 (by repeat (first | (with_reducible first | exact HB.out | apply bA | apply bN | apply bD | refine bS ?_ GE280.out) | exact HB.out)) hb); clear HO_281000; clear HO291; clear BK280; clear HB; have HO_281000 := n0_; have HO291 := n1_; have BK280 := n2_; have HB := n3_; clear n0_ n1_ n2_ n3_; (try clear hb); (try clear hb2); (try clear hk); (try clear hi)))
       go_meet
       case rel => exact ⟨_, (t292), (by first | rfl | (simp; done) | simp [*]), H', ⟨by have := HJ6.out; have := HJ17.out; first | omega | exact Nat.le_refl _⟩, ⟨by (with_reducible repeat (first | apply vA | apply vN | apply vD)); exact Kd.V_mono HO_281000.out (fun _ hk => hk.1)⟩, ⟨by (with_reducible repeat (first | refine kN ?_ _ | refine kD ?_ | refine kA ?_ _)); exact BK280.out⟩, ⟨by repeat (first | (with_reducible first | exact HB.out | apply bA | apply bN | apply bD | refine bS ?_ GE280.out) | exact HB.out)⟩⟩
      ·rw [if_neg c21] at H
       have c21b0 : (x10_17 == 0) = false := beq_eq_false_iff_ne.mpr c21
       have c21b1 : (x10_17 != 0) = true := bne_iff_ne.mpr c21
       (first | rw [c21b0] | (simp only [q1e, q1i]; rw [c21b0]) | skip)
       have H' := aS H
       clear H
       go_wp2
       go_meet
       case rel => exact ⟨_, (x10_17), (by first | rfl | (simp; done) | simp [*]), H', ⟨by have := HJ6.out; have := HJ17.out; first | omega | exact Nat.le_refl _⟩, ⟨by (with_reducible repeat (first | apply vA | apply vN | apply vD)); exact HO_281000.out⟩, ⟨by (with_reducible repeat (first | refine kN ?_ _ | refine kD ?_ | refine kA ?_ _)); exact BK280.out⟩, ⟨by repeat (first | (with_reducible first | exact HB.out | apply bA | apply bN | apply bD | refine bS ?_ GE280.out) | exact HB.out)⟩⟩
     case rest =>
      clear HC20
      try clear c1
      try clear c2
      try clear p2
      try clear c3
      try clear c15
      try clear c16
      try clear c16b0
      try clear c16b1
      try clear c17
      try clear c17b0
      try clear c18
      try clear c19
      try clear c21
      try clear c21b0
      try clear c21b1
      try clear hcz12_0
      try clear hcz12_1
      try clear hcz14_0
      try clear hcz14_1
      try clear hcz23_0
      try clear hcz23_1
      try clear hcz9_0
      try clear hcz9_1
      try clear hfz12_0
      try clear hfz12_1
      try clear hfz14_0
      try clear hfz14_1
      try clear hfz23_0
      try clear hfz23_1
      try clear hfz9_0
      try clear hfz9_1
      try clear p2
      obtain ⟨kq, x10_19, rfl, HA, HJ19, HO_281000, BK280, HB⟩ := hcut
      cases kq with
      | zero => exact absurd HA.out (by simp [q07.j2])
      | succ kj19 =>
       have H := HA.out
       clear HA
       simp only [q07.j2] at H
       by_cases c28 : x10_19 = 0
       ·rw [if_pos c28] at H
        have c28b0 : (x10_19 == 0) = true := beq_iff_eq.mpr c28
        have c28b1 : (x10_19 != 0) = false := bne_eq_false_iff_eq.mpr c28
        clear c28
        replace H := Option.bind_eq_some_iff.mp H
        obtain ⟨t293, A290, H⟩ := H
        replace H : ((q0m.f kj19).bind fun t294 => (if t294 = true then (if t285 = (mx t293 0) then (if (t286 == (decide (t293 ≥ 0))) = true then (some (t287 == x10_19)) else (some false)) else (some false)) else (some false))) = some r := H
        have A29 := aS A290
        clear A290
        replace H := Option.bind_eq_some_iff.mp H
        obtain ⟨t294, A300, H⟩ := H
        replace H : (if t294 = true then (if t285 = (mx t293 0) then (if (t286 == (decide (t293 ≥ 0))) = true then (some (t287 == x10_19)) else (some false)) else (some false)) else (some false)) = some r := H
        have A30 := aS A300
        clear A300
        by_cases c31 : t294 = true
        ·subst c31
         have H1 : (if t285 = (mx t293 0) then (if (t286 == (decide (t293 ≥ 0))) = true then (some (t287 == x10_19)) else (some false)) else (some false)) = some r := by rw [if_pos rfl] at H; exact H
         clear H
         have H := H1
         clear H1
         obtain ⟨ji32, hji32⟩ : ∃ j_ : Int, (mx t293 0) = j_ := ⟨_, rfl⟩
         replace H : (if t285 = (ji32) then (if (t286 == (decide (t293 ≥ 0))) = true then (some (t287 == x10_19)) else (some false)) else (some false)) = some r := by first | (rw [hji32] at H; exact H) | (simp only [hji32] at H ⊢; exact H)
         (try rw [hji32] at A29)
         (try rw [hji32] at A30)
         (try (have hji32l : 0 ≤ ji32 := by (rw [← hji32]; unfold mx; (repeat' split) <;> omega)))
         (try (have hji32m : 0 ≤ ji32 := by omega))
         have hji32_ : (if t293 < 0 then 0 else t293) = ji32 := hji32
         by_cases c33 : t285 = (ji32)
         ·rw [if_pos c33] at H
          have c33b0 : (t285 == (ji32)) = true := beq_iff_eq.mpr c33
          have c33b1 : (t285 != (ji32)) = false := bne_eq_false_iff_eq.mpr c33
          clear c33
          by_cases c34 : (t286 == (decide (t293 ≥ 0))) = true
          ·rw [if_pos c34] at H
           have c34b0 : (t286 == (decide (t293 ≥ 0))) = true := c34
           (try (have c34b1 : decide (t286 = (decide (t293 ≥ 0))) = true := by simpa using c34))
           (try (have c34b2 : (t286 == (decide (t293 ≥ 0))) = true := by simpa using c34))
           clear c34
           obtain rfl := Option.some.inj H
           have hcz35_0 : wc.cell? ⟨gb280, 0, none⟩ = some (.slice Ao11 t281.length co11) := (q02 BK280.out 0).trans rfl
           have hcz35_1 : wc.cell? ⟨gb280, 1, none⟩ = some (.bool t284) := (q02 BK280.out 1).trans rfl
           have hfz35_0 := q01 BK280.out 0
           have hfz35_1 := q01 BK280.out 1
           go_wp2_with (first | ((with_reducible refine q0l (f := 19) rfl ?_); refine q1d (some 45) rfl rfl Tryd.func19 (by kernel_rfl) rfl #[.agg #[.slice Ao11 t281.length co11, .bool t284], .int .i64 a1, .int .i64 a2] rfl (by (try simp only [List.map_toArray, List.map_cons, List.map_nil]); first | done | rfl | (simp only [List.length_drop, List.length_take]; rfl)) ?_; (with_reducible refine (q0n.calls kj19 _ _ t281 t284 a1 a2 t293 _ ?side1 ?side2 A29.out).mono ?_); (case side1 => repeat (first | exact (Kd.V_reads' HO_281000.out).2.2 | (with_reducible refine cA ?_ _) | (with_reducible refine cN ?_ _) | (with_reducible refine cD ?_))); (case side2 => exact (Kd.V_reads' HO_281000.out).2.1); rintro e w36 ⟨rfl, hb⟩; refine ⟨_, rfl, ?_⟩; have n0_ := aS (Kd.V_below (by (with_reducible repeat (first | apply vA | apply vN | apply vD)); exact HO_281000.out) hb); have n1_ := aS (q16 (g := gb280) (o := .cells #[.slice Ao11 t281.length co11, .bool t284] 24 (0, 0)) (by (with_reducible repeat (first | refine kN ?_ _ | refine kD ?_ | refine kA ?_ _)); exact BK280.out) hb); have n2_ := aS (q09 (by repeat (first | (with_reducible first | exact HB.out | apply bA | apply bN | apply bD | refine bS ?_ GE280.out) | exact HB.out)) hb); clear HO_281000; clear BK280; clear HB; have HO_281000 := n0_; have BK280 := n1_; have HB := n2_; clear n0_ n1_ n2_; (try clear hb); (try clear hb2); (try clear hk); (try clear hi)) | ((with_reducible refine q0l (f := 20) rfl ?_); refine q1d (some 46) rfl rfl Tryd.func20 (by kernel_rfl) rfl #[] rfl (by (try simp only [List.map_toArray, List.map_cons, List.map_nil]); first | done | rfl | (simp only [List.length_drop, List.length_take]; rfl)) ?_; (with_reducible refine (q0m.calls kj19  true _ A30.out).mono ?_); rintro e w37 ⟨rfl, hb⟩; refine ⟨_, rfl, ?_⟩; have n0_ := aS (Kd.V_below (by (with_reducible repeat (first | apply vA | apply vN | apply vD)); exact HO_281000.out) hb); have n1_ := aS (q16 (g := gb280) (o := .cells #[.slice Ao11 t281.length co11, .bool t284] 24 (0, 0)) (by (with_reducible repeat (first | refine kN ?_ _ | refine kD ?_ | refine kA ?_ _)); exact BK280.out) hb); have n2_ := aS (q09 (by repeat (first | (with_reducible first | exact HB.out | apply bA | apply bN | apply bD | refine bS ?_ GE280.out) | exact HB.out)) hb); clear HO_281000; clear BK280; clear HB; have HO_281000 := n0_; have BK280 := n1_; have HB := n2_; clear n0_ n1_ n2_; (try clear hb); (try clear hb2); (try clear hk); (try clear hi)))
           go_ret
           exact ⟨by first | rfl | (simp [q0b, q0a] <;> rfl) | (simp only [← hji32]; first | rfl | (simp [q0b, q0a] <;> rfl)) | (simp [*, q0b, q0a] <;> rfl), by repeat (first | (with_reducible first | exact HB.out | apply bA | apply bN | apply bD | refine bS ?_ GE280.out) | exact HB.out)⟩
          ·rw [if_neg c34] at H
           have c34b0 : (t286 == (decide (t293 ≥ 0))) = false := by simpa using c34
           (try (have c34b1 : decide (t286 = (decide (t293 ≥ 0))) = false := by simpa using c34))
           (try (have c34b2 : (t286 == (decide (t293 ≥ 0))) = false := by simpa using c34))
           (try (have c34b3 : ¬ (t286 = (decide (t293 ≥ 0))) := by simpa using c34))
           clear c34
           obtain rfl := Option.some.inj H
           have hcz38_0 : wc.cell? ⟨gb280, 0, none⟩ = some (.slice Ao11 t281.length co11) := (q02 BK280.out 0).trans rfl
           have hcz38_1 : wc.cell? ⟨gb280, 1, none⟩ = some (.bool t284) := (q02 BK280.out 1).trans rfl
           have hfz38_0 := q01 BK280.out 0
           have hfz38_1 := q01 BK280.out 1
           go_wp2_with (first | ((with_reducible refine q0l (f := 19) rfl ?_); refine q1d (some 45) rfl rfl Tryd.func19 (by kernel_rfl) rfl #[.agg #[.slice Ao11 t281.length co11, .bool t284], .int .i64 a1, .int .i64 a2] rfl (by (try simp only [List.map_toArray, List.map_cons, List.map_nil]); first | done | rfl | (simp only [List.length_drop, List.length_take]; rfl)) ?_; (with_reducible refine (q0n.calls kj19 _ _ t281 t284 a1 a2 t293 _ ?side1 ?side2 A29.out).mono ?_); (case side1 => repeat (first | exact (Kd.V_reads' HO_281000.out).2.2 | (with_reducible refine cA ?_ _) | (with_reducible refine cN ?_ _) | (with_reducible refine cD ?_))); (case side2 => exact (Kd.V_reads' HO_281000.out).2.1); rintro e w39 ⟨rfl, hb⟩; refine ⟨_, rfl, ?_⟩; have n0_ := aS (Kd.V_below (by (with_reducible repeat (first | apply vA | apply vN | apply vD)); exact HO_281000.out) hb); have n1_ := aS (q16 (g := gb280) (o := .cells #[.slice Ao11 t281.length co11, .bool t284] 24 (0, 0)) (by (with_reducible repeat (first | refine kN ?_ _ | refine kD ?_ | refine kA ?_ _)); exact BK280.out) hb); have n2_ := aS (q09 (by repeat (first | (with_reducible first | exact HB.out | apply bA | apply bN | apply bD | refine bS ?_ GE280.out) | exact HB.out)) hb); clear HO_281000; clear BK280; clear HB; have HO_281000 := n0_; have BK280 := n1_; have HB := n2_; clear n0_ n1_ n2_; (try clear hb); (try clear hb2); (try clear hk); (try clear hi)) | ((with_reducible refine q0l (f := 20) rfl ?_); refine q1d (some 46) rfl rfl Tryd.func20 (by kernel_rfl) rfl #[] rfl (by (try simp only [List.map_toArray, List.map_cons, List.map_nil]); first | done | rfl | (simp only [List.length_drop, List.length_take]; rfl)) ?_; (with_reducible refine (q0m.calls kj19  true _ A30.out).mono ?_); rintro e w40 ⟨rfl, hb⟩; refine ⟨_, rfl, ?_⟩; have n0_ := aS (Kd.V_below (by (with_reducible repeat (first | apply vA | apply vN | apply vD)); exact HO_281000.out) hb); have n1_ := aS (q16 (g := gb280) (o := .cells #[.slice Ao11 t281.length co11, .bool t284] 24 (0, 0)) (by (with_reducible repeat (first | refine kN ?_ _ | refine kD ?_ | refine kA ?_ _)); exact BK280.out) hb); have n2_ := aS (q09 (by repeat (first | (with_reducible first | exact HB.out | apply bA | apply bN | apply bD | refine bS ?_ GE280.out) | exact HB.out)) hb); clear HO_281000; clear BK280; clear HB; have HO_281000 := n0_; have BK280 := n1_; have HB := n2_; clear n0_ n1_ n2_; (try clear hb); (try clear hb2); (try clear hk); (try clear hi)))
           go_ret
           exact ⟨by first | rfl | (simp [q0b, q0a] <;> rfl) | (simp only [← hji32]; first | rfl | (simp [q0b, q0a] <;> rfl)) | (simp [*, q0b, q0a] <;> rfl), by repeat (first | (with_reducible first | exact HB.out | apply bA | apply bN | apply bD | refine bS ?_ GE280.out) | exact HB.out)⟩
         ·rw [if_neg c33] at H
          have c33b0 : (t285 == (ji32)) = false := beq_eq_false_iff_ne.mpr c33
          have c33b1 : (t285 != (ji32)) = true := bne_iff_ne.mpr c33
          obtain rfl := Option.some.inj H
          have hcz41_0 : wc.cell? ⟨gb280, 0, none⟩ = some (.slice Ao11 t281.length co11) := (q02 BK280.out 0).trans rfl
          have hcz41_1 : wc.cell? ⟨gb280, 1, none⟩ = some (.bool t284) := (q02 BK280.out 1).trans rfl
          have hfz41_0 := q01 BK280.out 0
          have hfz41_1 := q01 BK280.out 1
          go_wp2_with (first | ((with_reducible refine q0l (f := 19) rfl ?_); refine q1d (some 45) rfl rfl Tryd.func19 (by kernel_rfl) rfl #[.agg #[.slice Ao11 t281.length co11, .bool t284], .int .i64 a1, .int .i64 a2] rfl (by (try simp only [List.map_toArray, List.map_cons, List.map_nil]); first | done | rfl | (simp only [List.length_drop, List.length_take]; rfl)) ?_; (with_reducible refine (q0n.calls kj19 _ _ t281 t284 a1 a2 t293 _ ?side1 ?side2 A29.out).mono ?_); (case side1 => repeat (first | exact (Kd.V_reads' HO_281000.out).2.2 | (with_reducible refine cA ?_ _) | (with_reducible refine cN ?_ _) | (with_reducible refine cD ?_))); (case side2 => exact (Kd.V_reads' HO_281000.out).2.1); rintro e w42 ⟨rfl, hb⟩; refine ⟨_, rfl, ?_⟩; have n0_ := aS (Kd.V_below (by (with_reducible repeat (first | apply vA | apply vN | apply vD)); exact HO_281000.out) hb); have n1_ := aS (q16 (g := gb280) (o := .cells #[.slice Ao11 t281.length co11, .bool t284] 24 (0, 0)) (by (with_reducible repeat (first | refine kN ?_ _ | refine kD ?_ | refine kA ?_ _)); exact BK280.out) hb); have n2_ := aS (q09 (by repeat (first | (with_reducible first | exact HB.out | apply bA | apply bN | apply bD | refine bS ?_ GE280.out) | exact HB.out)) hb); clear HO_281000; clear BK280; clear HB; have HO_281000 := n0_; have BK280 := n1_; have HB := n2_; clear n0_ n1_ n2_; (try clear hb); (try clear hb2); (try clear hk); (try clear hi)) | ((with_reducible refine q0l (f := 20) rfl ?_); refine q1d (some 46) rfl rfl Tryd.func20 (by kernel_rfl) rfl #[] rfl (by (try simp only [List.map_toArray, List.map_cons, List.map_nil]); first | done | rfl | (simp only [List.length_drop, List.length_take]; rfl)) ?_; (with_reducible refine (q0m.calls kj19  true _ A30.out).mono ?_); rintro e w43 ⟨rfl, hb⟩; refine ⟨_, rfl, ?_⟩; have n0_ := aS (Kd.V_below (by (with_reducible repeat (first | apply vA | apply vN | apply vD)); exact HO_281000.out) hb); have n1_ := aS (q16 (g := gb280) (o := .cells #[.slice Ao11 t281.length co11, .bool t284] 24 (0, 0)) (by (with_reducible repeat (first | refine kN ?_ _ | refine kD ?_ | refine kA ?_ _)); exact BK280.out) hb); have n2_ := aS (q09 (by repeat (first | (with_reducible first | exact HB.out | apply bA | apply bN | apply bD | refine bS ?_ GE280.out) | exact HB.out)) hb); clear HO_281000; clear BK280; clear HB; have HO_281000 := n0_; have BK280 := n1_; have HB := n2_; clear n0_ n1_ n2_; (try clear hb); (try clear hb2); (try clear hk); (try clear hi)))
          go_ret
          exact ⟨by first | rfl | (simp [q0b, q0a] <;> rfl) | (simp only [← hji32]; first | rfl | (simp [q0b, q0a] <;> rfl)) | (simp [*, q0b, q0a] <;> rfl), by repeat (first | (with_reducible first | exact HB.out | apply bA | apply bN | apply bD | refine bS ?_ GE280.out) | exact HB.out)⟩
        ·replace c31 := Bool.eq_false_iff.mpr c31
         subst c31
         have H1 : (some false) = some r := by rw [if_neg (show ¬ (false = true) by decide)] at H; exact H
         clear H
         have H := H1
         clear H1
         obtain rfl := Option.some.inj H
         have hcz44_0 : wc.cell? ⟨gb280, 0, none⟩ = some (.slice Ao11 t281.length co11) := (q02 BK280.out 0).trans rfl
         have hcz44_1 : wc.cell? ⟨gb280, 1, none⟩ = some (.bool t284) := (q02 BK280.out 1).trans rfl
         have hfz44_0 := q01 BK280.out 0
         have hfz44_1 := q01 BK280.out 1
         go_wp2_with (first | ((with_reducible refine q0l (f := 19) rfl ?_); refine q1d (some 45) rfl rfl Tryd.func19 (by kernel_rfl) rfl #[.agg #[.slice Ao11 t281.length co11, .bool t284], .int .i64 a1, .int .i64 a2] rfl (by (try simp only [List.map_toArray, List.map_cons, List.map_nil]); first | done | rfl | (simp only [List.length_drop, List.length_take]; rfl)) ?_; (with_reducible refine (q0n.calls kj19 _ _ t281 t284 a1 a2 t293 _ ?side1 ?side2 A29.out).mono ?_); (case side1 => repeat (first | exact (Kd.V_reads' HO_281000.out).2.2 | (with_reducible refine cA ?_ _) | (with_reducible refine cN ?_ _) | (with_reducible refine cD ?_))); (case side2 => exact (Kd.V_reads' HO_281000.out).2.1); rintro e w45 ⟨rfl, hb⟩; refine ⟨_, rfl, ?_⟩; have n0_ := aS (Kd.V_below (by (with_reducible repeat (first | apply vA | apply vN | apply vD)); exact HO_281000.out) hb); have n1_ := aS (q16 (g := gb280) (o := .cells #[.slice Ao11 t281.length co11, .bool t284] 24 (0, 0)) (by (with_reducible repeat (first | refine kN ?_ _ | refine kD ?_ | refine kA ?_ _)); exact BK280.out) hb); have n2_ := aS (q09 (by repeat (first | (with_reducible first | exact HB.out | apply bA | apply bN | apply bD | refine bS ?_ GE280.out) | exact HB.out)) hb); clear HO_281000; clear BK280; clear HB; have HO_281000 := n0_; have BK280 := n1_; have HB := n2_; clear n0_ n1_ n2_; (try clear hb); (try clear hb2); (try clear hk); (try clear hi)) | ((with_reducible refine q0l (f := 20) rfl ?_); refine q1d (some 46) rfl rfl Tryd.func20 (by kernel_rfl) rfl #[] rfl (by (try simp only [List.map_toArray, List.map_cons, List.map_nil]); first | done | rfl | (simp only [List.length_drop, List.length_take]; rfl)) ?_; (with_reducible refine (q0m.calls kj19  false _ A30.out).mono ?_); rintro e w46 ⟨rfl, hb⟩; refine ⟨_, rfl, ?_⟩; have n0_ := aS (Kd.V_below (by (with_reducible repeat (first | apply vA | apply vN | apply vD)); exact HO_281000.out) hb); have n1_ := aS (q16 (g := gb280) (o := .cells #[.slice Ao11 t281.length co11, .bool t284] 24 (0, 0)) (by (with_reducible repeat (first | refine kN ?_ _ | refine kD ?_ | refine kA ?_ _)); exact BK280.out) hb); have n2_ := aS (q09 (by repeat (first | (with_reducible first | exact HB.out | apply bA | apply bN | apply bD | refine bS ?_ GE280.out) | exact HB.out)) hb); clear HO_281000; clear BK280; clear HB; have HO_281000 := n0_; have BK280 := n1_; have HB := n2_; clear n0_ n1_ n2_; (try clear hb); (try clear hb2); (try clear hk); (try clear hi)))
         go_ret
         exact ⟨by first | rfl | (simp [q0b, q0a] <;> rfl) | (simp [*, q0b, q0a] <;> rfl), by repeat (first | (with_reducible first | exact HB.out | apply bA | apply bN | apply bD | refine bS ?_ GE280.out) | exact HB.out)⟩
       ·rw [if_neg c28] at H
        have c28b0 : (x10_19 == 0) = false := beq_eq_false_iff_ne.mpr c28
        have c28b1 : (x10_19 != 0) = true := bne_iff_ne.mpr c28
        replace H := Option.bind_eq_some_iff.mp H
        obtain ⟨t295, A470, H⟩ := H
        replace H : (if t295 = true then (if t285 = (mx (-1) 0) then (if (t286 == (decide ((-1) ≥ 0))) = true then (some (t287 == x10_19)) else (some false)) else (some false)) else (some false)) = some r := H
        have A47 := aS A470
        clear A470
        by_cases c48 : t295 = true
        ·subst c48
         have H1 : (if t285 = (mx (-1) 0) then (if (t286 == (decide ((-1) ≥ 0))) = true then (some (t287 == x10_19)) else (some false)) else (some false)) = some r := by rw [if_pos rfl] at H; exact H
         clear H
         have H := H1
         clear H1
         obtain ⟨ji49, hji49⟩ : ∃ j_ : Int, (mx (-1) 0) = j_ := ⟨_, rfl⟩
         replace H : (if t285 = (ji49) then (if (t286 == (decide ((-1) ≥ 0))) = true then (some (t287 == x10_19)) else (some false)) else (some false)) = some r := by first | (rw [hji49] at H; exact H) | (simp only [hji49] at H ⊢; exact H)
         (try rw [hji49] at A47)
         have hji49_ : (if (-1) < 0 then 0 else (-1)) = ji49 := hji49
         by_cases c50 : t285 = (ji49)
         ·rw [if_pos c50] at H
          have c50b0 : (t285 == (ji49)) = true := beq_iff_eq.mpr c50
          (try (have c50b0y : t285 = 0 := by (have e_ := beq_iff_eq.1 c50b0; rw [e_, ← hji49]; rfl)))
          have c50b1 : (t285 != (ji49)) = false := bne_eq_false_iff_eq.mpr c50
          clear c50
          by_cases c51 : (t286 == (decide ((-1) ≥ 0))) = true
          ·rw [if_pos c51] at H
           have c51b0 : (t286 == (decide ((-1) ≥ 0))) = true := c51
           (try (have c51b0z : t286 = false := by simpa using c51b0))
           (try (have c51b1 : decide (t286 = (decide ((-1) ≥ 0))) = true := by simpa using c51))
           (try (have c51b2 : (t286 == (decide ((-1) ≥ 0))) = true := by simpa using c51))
           clear c51
           obtain rfl := Option.some.inj H
           go_wp2_with (first | ((with_reducible refine q0l (f := 20) rfl ?_); refine q1d (some 46) rfl rfl Tryd.func20 (by kernel_rfl) rfl #[] rfl (by (try simp only [List.map_toArray, List.map_cons, List.map_nil]); first | done | rfl | (simp only [List.length_drop, List.length_take]; rfl)) ?_; (with_reducible refine (q0m.calls kj19  true _ A47.out).mono ?_); rintro e w52 ⟨rfl, hb⟩; refine ⟨_, rfl, ?_⟩; have n0_ := aS (Kd.V_below (by (with_reducible repeat (first | apply vA | apply vN | apply vD)); exact HO_281000.out) hb); have n1_ := aS (q16 (g := gb280) (o := .cells #[.slice Ao11 t281.length co11, .bool t284] 24 (0, 0)) (by (with_reducible repeat (first | refine kN ?_ _ | refine kD ?_ | refine kA ?_ _)); exact BK280.out) hb); have n2_ := aS (q09 (by repeat (first | (with_reducible first | exact HB.out | apply bA | apply bN | apply bD | refine bS ?_ GE280.out) | exact HB.out)) hb); clear HO_281000; clear BK280; clear HB; have HO_281000 := n0_; have BK280 := n1_; have HB := n2_; clear n0_ n1_ n2_; (try clear hb); (try clear hb2); (try clear hk); (try clear hi)))
           go_ret
           exact ⟨by first | rfl | (simp [q0b, q0a] <;> rfl) | (simp only [← hji49]; first | rfl | (simp [q0b, q0a] <;> rfl)) | (simp [*, q0b, q0a] <;> rfl), by repeat (first | (with_reducible first | exact HB.out | apply bA | apply bN | apply bD | refine bS ?_ GE280.out) | exact HB.out)⟩
          ·rw [if_neg c51] at H
           have c51b0 : (t286 == (decide ((-1) ≥ 0))) = false := by simpa using c51
           (try (have c51b0z : t286 = true := by simpa using c51b0))
           (try (have c51b1 : decide (t286 = (decide ((-1) ≥ 0))) = false := by simpa using c51))
           (try (have c51b2 : (t286 == (decide ((-1) ≥ 0))) = false := by simpa using c51))
           (try (have c51b3 : ¬ (t286 = (decide ((-1) ≥ 0))) := by simpa using c51))
           clear c51
           obtain rfl := Option.some.inj H
           go_wp2_with (first | ((with_reducible refine q0l (f := 20) rfl ?_); refine q1d (some 46) rfl rfl Tryd.func20 (by kernel_rfl) rfl #[] rfl (by (try simp only [List.map_toArray, List.map_cons, List.map_nil]); first | done | rfl | (simp only [List.length_drop, List.length_take]; rfl)) ?_; (with_reducible refine (q0m.calls kj19  true _ A47.out).mono ?_); rintro e w53 ⟨rfl, hb⟩; refine ⟨_, rfl, ?_⟩; have n0_ := aS (Kd.V_below (by (with_reducible repeat (first | apply vA | apply vN | apply vD)); exact HO_281000.out) hb); have n1_ := aS (q16 (g := gb280) (o := .cells #[.slice Ao11 t281.length co11, .bool t284] 24 (0, 0)) (by (with_reducible repeat (first | refine kN ?_ _ | refine kD ?_ | refine kA ?_ _)); exact BK280.out) hb); have n2_ := aS (q09 (by repeat (first | (with_reducible first | exact HB.out | apply bA | apply bN | apply bD | refine bS ?_ GE280.out) | exact HB.out)) hb); clear HO_281000; clear BK280; clear HB; have HO_281000 := n0_; have BK280 := n1_; have HB := n2_; clear n0_ n1_ n2_; (try clear hb); (try clear hb2); (try clear hk); (try clear hi)))
           go_ret
           exact ⟨by first | rfl | (simp [q0b, q0a] <;> rfl) | (simp only [← hji49]; first | rfl | (simp [q0b, q0a] <;> rfl)) | (simp [*, q0b, q0a] <;> rfl), by repeat (first | (with_reducible first | exact HB.out | apply bA | apply bN | apply bD | refine bS ?_ GE280.out) | exact HB.out)⟩
         ·rw [if_neg c50] at H
          have c50b0 : (t285 == (ji49)) = false := beq_eq_false_iff_ne.mpr c50
          (try (have c50b0y : ¬ t285 = 0 := by (intro e_; rw [e_, ← hji49] at c50b0; exact absurd c50b0 (by decide))))
          have c50b1 : (t285 != (ji49)) = true := bne_iff_ne.mpr c50
          obtain rfl := Option.some.inj H
          go_wp2_with (first | ((with_reducible refine q0l (f := 20) rfl ?_); refine q1d (some 46) rfl rfl Tryd.func20 (by kernel_rfl) rfl #[] rfl (by (try simp only [List.map_toArray, List.map_cons, List.map_nil]); first | done | rfl | (simp only [List.length_drop, List.length_take]; rfl)) ?_; (with_reducible refine (q0m.calls kj19  true _ A47.out).mono ?_); rintro e w54 ⟨rfl, hb⟩; refine ⟨_, rfl, ?_⟩; have n0_ := aS (Kd.V_below (by (with_reducible repeat (first | apply vA | apply vN | apply vD)); exact HO_281000.out) hb); have n1_ := aS (q16 (g := gb280) (o := .cells #[.slice Ao11 t281.length co11, .bool t284] 24 (0, 0)) (by (with_reducible repeat (first | refine kN ?_ _ | refine kD ?_ | refine kA ?_ _)); exact BK280.out) hb); have n2_ := aS (q09 (by repeat (first | (with_reducible first | exact HB.out | apply bA | apply bN | apply bD | refine bS ?_ GE280.out) | exact HB.out)) hb); clear HO_281000; clear BK280; clear HB; have HO_281000 := n0_; have BK280 := n1_; have HB := n2_; clear n0_ n1_ n2_; (try clear hb); (try clear hb2); (try clear hk); (try clear hi)))
          go_ret
          exact ⟨by first | rfl | (simp [q0b, q0a] <;> rfl) | (simp only [← hji49]; first | rfl | (simp [q0b, q0a] <;> rfl)) | (simp [*, q0b, q0a] <;> rfl), by repeat (first | (with_reducible first | exact HB.out | apply bA | apply bN | apply bD | refine bS ?_ GE280.out) | exact HB.out)⟩
        ·replace c48 := Bool.eq_false_iff.mpr c48
         subst c48
         have H1 : (some false) = some r := by rw [if_neg (show ¬ (false = true) by decide)] at H; exact H
         clear H
         have H := H1
         clear H1
         obtain rfl := Option.some.inj H
         go_wp2_with (first | ((with_reducible refine q0l (f := 20) rfl ?_); refine q1d (some 46) rfl rfl Tryd.func20 (by kernel_rfl) rfl #[] rfl (by (try simp only [List.map_toArray, List.map_cons, List.map_nil]); first | done | rfl | (simp only [List.length_drop, List.length_take]; rfl)) ?_; (with_reducible refine (q0m.calls kj19  false _ A47.out).mono ?_); rintro e w55 ⟨rfl, hb⟩; refine ⟨_, rfl, ?_⟩; have n0_ := aS (Kd.V_below (by (with_reducible repeat (first | apply vA | apply vN | apply vD)); exact HO_281000.out) hb); have n1_ := aS (q16 (g := gb280) (o := .cells #[.slice Ao11 t281.length co11, .bool t284] 24 (0, 0)) (by (with_reducible repeat (first | refine kN ?_ _ | refine kD ?_ | refine kA ?_ _)); exact BK280.out) hb); have n2_ := aS (q09 (by repeat (first | (with_reducible first | exact HB.out | apply bA | apply bN | apply bD | refine bS ?_ GE280.out) | exact HB.out)) hb); clear HO_281000; clear BK280; clear HB; have HO_281000 := n0_; have BK280 := n1_; have HB := n2_; clear n0_ n1_ n2_; (try clear hb); (try clear hb2); (try clear hk); (try clear hi)))
         go_ret
         exact ⟨by first | rfl | (simp [q0b, q0a] <;> rfl) | (simp [*, q0b, q0a] <;> rfl), by repeat (first | (with_reducible first | exact HB.out | apply bA | apply bN | apply bD | refine bS ?_ GE280.out) | exact HB.out)⟩
end Go.Proofs.YthjnallbbhnndaaDoor.XWk
namespace Go.Proofs.YthjnallbbhnndaaDoor.XWk
open Go.Proofs.YthjnallbbhnndaaDoor.Short Go.RowKit Go.Proofs.YthjnallbbhnndaaDoorW.PrintWords Go.Proofs.YthjnallbbhnndaaDoorW.PrintLast Go.Proofs.YthjnallbbhnndaaDoor
def ok122 (x_ : S122) : Prop := (fun x_ : ByteArray => x_.size ≤ reachBytes) x_.f0 ∧ (fun x_ : ByteArray => x_.size ≤ reachBytes) x_.f1
theorem rd122 : Rd.Reads Tryd.prog 122 k122 ok122 :=
  ((Rd.reads_struct Tryd.underlying122 (by kernel_rfl) (Rd.readsF_cons rfl (Rd.reads_string Tryd.underlying9 (by kernel_rfl)) (Rd.readsF_one rfl (Rd.reads_string Tryd.underlying9 (by kernel_rfl))))).iso (fun x : S122 => (x.f0, x.f1)) (fun p_ => ⟨p_.1, p_.2⟩) (fun _ => rfl)).imp (fun _ h_ => h_)
def ok43 (x_ : S43) : Prop := (fun x_ : Int => (Lit.int .i64 x_).wf = true) x_.f0 ∧ (fun x_ : ByteArray => x_.size ≤ reachBytes) x_.f1 ∧ (fun l_ : List (S122) => l_.length * 32 ≤ reachBytes ∧ l_.length ≤ 9223372036854775807 ∧ ∀ a ∈ l_, ok122 a) x_.f2 ∧ (fun x_ : ByteArray => x_.size ≤ reachBytes) x_.f3 ∧ (fun x_ : Int => (Lit.int .i64 x_).wf = true) x_.f4 ∧ (fun l_ : List Int => l_.length * 8 ≤ reachBytes ∧ l_.length ≤ 9223372036854775807 ∧ ∀ a ∈ l_, (fun x_ : Int => (Lit.int .i64 x_).wf = true) a) x_.f5
theorem rd43 : Rd.Reads Tryd.prog 43 k43 ok43 :=
  ((Rd.reads_struct Tryd.underlying43 (by kernel_rfl) (Rd.readsF_cons rfl (Rd.reads_int Tryd.underlying3 (by kernel_rfl)) (Rd.readsF_cons rfl (Rd.reads_string Tryd.underlying9 (by kernel_rfl)) (Rd.readsF_cons rfl (show Rd.Reads Tryd.prog 41 (Kd.slice 122 k122) (fun l_ : List (S122) => l_.length * 32 ≤ reachBytes ∧ l_.length ≤ 9223372036854775807 ∧ ∀ a ∈ l_, ok122 a) from (Rd.reads_slice Tryd.underlying41 (by kernel_rfl) rd122).imp (fun l_ h_ => ⟨(show Tryd.prog.bytesOf 122 = 32 from by kernel_rfl) ▸ h_.1, h_.2⟩)) (Rd.readsF_cons rfl (Rd.reads_string Tryd.underlying9 (by kernel_rfl)) (Rd.readsF_cons rfl (Rd.reads_int Tryd.underlying3 (by kernel_rfl)) (Rd.readsF_one rfl (show Rd.Reads Tryd.prog 31 (Kd.slice 3 (Kd.int .i64)) (fun l_ : List Int => l_.length * 8 ≤ reachBytes ∧ l_.length ≤ 9223372036854775807 ∧ ∀ a ∈ l_, (fun x_ : Int => (Lit.int .i64 x_).wf = true) a) from (Rd.reads_slice Tryd.underlying31 (by kernel_rfl) (Rd.reads_int Tryd.underlying3 (by kernel_rfl))).imp (fun l_ h_ => ⟨(show Tryd.prog.bytesOf 3 = 8 from by kernel_rfl) ▸ h_.1, h_.2⟩))))))))).iso (fun x : S43 => (x.f0, x.f1, x.f2, x.f3, x.f4, x.f5)) (fun p_ => ⟨p_.1, p_.2.1, p_.2.2.1, p_.2.2.2.1, p_.2.2.2.2.1, p_.2.2.2.2.2⟩) (fun _ => rfl)).imp (fun _ h_ => h_)
def ok24 (x_ : S24) : Prop := (fun l_ : List (S43) => l_.length * 96 ≤ reachBytes ∧ l_.length ≤ 9223372036854775807 ∧ ∀ a ∈ l_, ok43 a) x_.f0 ∧ (fun _ : Bool => True) x_.f1
theorem rd24 : Rd.Reads Tryd.prog 24 k24 ok24 :=
  ((Rd.reads_struct Tryd.underlying24 (by kernel_rfl) (Rd.readsF_cons rfl (show Rd.Reads Tryd.prog 22 (Kd.slice 43 k43) (fun l_ : List (S43) => l_.length * 96 ≤ reachBytes ∧ l_.length ≤ 9223372036854775807 ∧ ∀ a ∈ l_, ok43 a) from (Rd.reads_slice Tryd.underlying22 (by kernel_rfl) rd43).imp (fun l_ h_ => ⟨(show Tryd.prog.bytesOf 43 = 96 from by kernel_rfl) ▸ h_.1, h_.2⟩)) (Rd.readsF_one rfl (Rd.reads_bool Tryd.underlying4 (by kernel_rfl))))).iso (fun x : S24 => (x.f0, x.f1)) (fun p_ => ⟨p_.1, p_.2⟩) (fun _ => rfl)).imp (fun _ h_ => h_)
def q07.Pure : Prop := ∀ (l0_0 : List (S43)) (a0_1 : Bool) (a1 : Int) (a2 : Int), (fun l_ : List (S43) => l_.length * 96 ≤ reachBytes ∧ l_.length ≤ 9223372036854775807 ∧ ∀ a ∈ l_, ok43 a) l0_0 → (fun _ : Bool => True) a0_1 → (fun x_ : Int => (Lit.int .i64 x_).wf = true) a1 → (fun x_ : Int => (Lit.int .i64 x_).wf = true) a2 → ∃ k, q07.f k l0_0 a0_1 a1 a2 = some true
end Go.Proofs.YthjnallbbhnndaaDoor.XWk
namespace Go.Proofs.YthjnallbbhnndaaDoor.Dm
open Go Go.RowKit Go.Proofs.YthjnallbbhnndaaDoor.XWk Go.Proofs.YthjnallbbhnndaaDoorW.PrintWords Go.Proofs.YthjnallbbhnndaaDoorW.PrintLast
structure Tree (ns : List S43) : Prop where
  many : ns.length ≤ 200
  some_ : 0 < ns.length
  root : par ns 0 = -1
  kid : ∀ i c : Int, 0 ≤ i → i < ns.length → c ∈ kidL ns i → 0 ≤ c ∧ c < ns.length ∧ par ns c = i
  once : ∀ i : Int, 0 ≤ i → i < ns.length → (kidL ns i).Nodup
  up : ∀ i : Int, 0 ≤ i → i < ns.length → par ns i = -1 ∨ (0 ≤ par ns i ∧ par ns i < ns.length ∧ i ∈ kidL ns (par ns i))
  deep : ∀ i : Int, 0 ≤ i → i < ns.length → q1s ns i ≤ 40 ∧ q1s ns i ≤ ns.length
theorem mem_hasK (l : List Int) (x : Int) : hasK l x = true ↔ x ∈ l := by
  unfold hasK
  rw [List.any_eq_true]
  constructor
  · rintro ⟨y, hy, h⟩
    obtain rfl := of_decide_eq_true h
    exact hy
  · intro h
    exact ⟨x, h, decide_eq_true rfl⟩
theorem kidsE_once {ns : List S43} {i : Int} : ∀ {l pre : List Int}, kidsE ns i pre l = 0 → l.Nodup ∧ ∀ c ∈ l, hasK pre c = false
  | [], _, _ => ⟨List.nodup_nil, fun c hc => by simp at hc⟩
  | x :: t, pre, h => by
    rw [kidsE_cons] at h
    by_cases hb : q2p ns i pre x = true
    · rw [if_pos hb] at h; cases h
    · rw [if_neg hb] at h
      have hr := kidBad_range hb
      by_cases h7 : i = 0 ∧ (q05 ns x).f0 = 3
      · rw [if_pos h7] at h; cases h
      · rw [if_neg h7] at h
        obtain ⟨h1, h2⟩ := kidsE_once h
        have hx : x ∉ t := fun hx => by
          have := h2 x hx
          rw [(hasK_snoc pre x x).2 (.inl rfl)] at this
          cases this
        refine ⟨List.nodup_cons.2 ⟨hx, h1⟩, fun c hc => ?_⟩
        rcases List.mem_cons.1 hc with rfl | hc
        · exact hr.2.2.2
        · have h3 := h2 c hc
          cases hp : hasK pre c
          · rfl
          · rw [(hasK_snoc pre x c).2 (.inr hp)] at h3
            cases h3
theorem kidsL_ok {ns : List S43} : ∀ {d i : Nat}, kidsL ns d i = 0 → ∀ j : Nat, i ≤ j → j < i + d → kidsE ns (j : Int) [] (kidL ns (j : Int)) = 0
  | 0, i, _, j, h1, h2 => by omega
  | d + 1, i, h, j, h1, h2 => by
    obtain ⟨ha, hb⟩ := orE_eq_zero (show orE (kidsE ns (i : Int) [] (kidL ns (i : Int))) (kidsL ns d (i + 1)) = 0 from h)
    by_cases e : j = i
    · subst e; exact ha
    · exact kidsL_ok hb j (by omega) (by omega)
theorem upsE_ok {ns : List S43} : ∀ {d i : Nat}, upsE ns d i = 0 → ∀ j : Nat, i ≤ j → j < i + d → q1s ns (j : Int) ≤ 40 ∧ q1s ns (j : Int) ≤ ns.length
  | 0, i, _, j, h1, h2 => by omega
  | d + 1, i, h, j, h1, h2 => by
    rw [upsE_succ] at h
    by_cases c : ns.length < q1s ns (i : Int)
    · rw [if_pos c] at h; cases h
    · rw [if_neg c] at h
      by_cases c' : 40 < q1s ns (i : Int)
      · rw [if_pos c'] at h; cases h
      · rw [if_neg c'] at h
        by_cases e : j = i
        · subst e; omega
        · exact upsE_ok h j (by omega) (by omega)
theorem tree_of {ns : List S43} (h : docE ns = 0) : Tree ns := by
  unfold docE at h
  by_cases c : 200 < ns.length
  · rw [if_pos c] at h; cases h
  · rw [if_neg c] at h
    by_cases c0 : ns.length = 0
    · rw [if_pos c0] at h; cases h
    · rw [if_neg c0] at h
      obtain ⟨_, h⟩ := orE_eq_zero h
      obtain ⟨hk, hu⟩ := orE_eq_zero h
      obtain ⟨hk, hp⟩ := orE_eq_zero (show orE (kidsL ns ns.length 0) (parsE ns ns.length 0) = 0 from hk)
      have nat : ∀ i : Int, 0 ≤ i → ((i.toNat : Nat) : Int) = i := fun i h0 => by omega
      refine ⟨by omega, by omega, (parsE_ok hp).1, fun i c h0 h1 hc => ?_, fun i h0 h1 => ?_, fun i h0 h1 => ?_, fun i h0 h1 => ?_⟩
      · have := kidsL_ok hk i.toNat (Nat.zero_le _) (by omega)
        rw [nat i h0] at this
        exact kidsE_ok this c hc
      · have := kidsL_ok hk i.toNat (Nat.zero_le _) (by omega)
        rw [nat i h0] at this
        exact (kidsE_once this).1
      · have := (parsE_ok hp).2 i.toNat (Nat.zero_le _) (by omega)
        rw [nat i h0] at this
        rcases parBad_ok this with h | h
        · exact .inl h
        · exact .inr ⟨h.1, h.2.1, (mem_hasK _ _).1 h.2.2⟩
      · have := upsE_ok hu i.toNat (Nat.zero_le _) (by omega)
        rw [nat i h0] at this
        exact this
theorem deepN_stab (ns : List S43) : ∀ (d : Nat) (i : Int), q2u ns d i < d → q2u ns (d + 1) i = q2u ns d i
  | 0, _, h => absurd h (Nat.not_lt_zero _)
  | d + 1, i, h => by
    rw [show q2u ns (d + 2) i = if par ns i ≥ 0 then 1 + q2u ns (d + 1) (par ns i) else 0 from rfl]
    rw [show q2u ns (d + 1) i = if par ns i ≥ 0 then 1 + q2u ns d (par ns i) else 0 from rfl] at h ⊢
    by_cases c : par ns i ≥ 0
    · rw [if_pos c] at h ⊢
      rw [if_pos c, deepN_stab ns d (par ns i) (by omega)]
    · rw [if_neg c, if_neg c]
theorem deep_up {ns : List S43} (h : Tree ns) {i : Int} (h0 : 0 ≤ i) (h1 : i < ns.length) (hp : 0 ≤ par ns i) : q1s ns i = q1s ns (par ns i) + 1 := by
  have hd := (h.deep i h0 h1).2
  unfold q1s at hd ⊢
  rw [show q2u ns (ns.length + 1) i = if par ns i ≥ 0 then 1 + q2u ns ns.length (par ns i) else 0 from rfl, if_pos hp] at hd ⊢
  rw [deepN_stab ns ns.length (par ns i) (by omega)]
  omega
theorem deep_kid {ns : List S43} (h : Tree ns) {i c : Int} (h0 : 0 ≤ i) (h1 : i < ns.length) (hc : c ∈ kidL ns i) : q1s ns c = q1s ns i + 1 := by
  obtain ⟨c0, c1, cp⟩ := h.kid i c h0 h1 hc
  rw [deep_up h c0 c1 (by omega), cp]
theorem deep_root {ns : List S43} (h : Tree ns) {i : Int} (hp : par ns i < 0) : q1s ns i = 0 := by
  unfold q1s
  rw [show q2u ns (ns.length + 1) i = if par ns i ≥ 0 then 1 + q2u ns ns.length (par ns i) else 0 from rfl, if_neg (by omega)]
def upN (ns : List S43) : Nat → Int → Int
  | 0, x => x
  | d + 1, x => upN ns d (par ns x)
theorem upN_succ (ns : List S43) : ∀ (d : Nat) (x : Int), upN ns (d + 1) x = par ns (upN ns d x)
  | 0, _ => rfl
  | d + 1, x => upN_succ ns d (par ns x)
def pre (ns : List S43) : Nat → Int → List Int
  | 0, _ => []
  | d + 1, i => i :: (kidL ns i).flatMap (pre ns d)
def sub (ns : List S43) (i : Int) : List Int := pre ns (41 - q1s ns i) i
theorem flatMap_congr {α β : Type} {f g : α → List β} : ∀ {l : List α}, (∀ x ∈ l, f x = g x) → l.flatMap f = l.flatMap g
  | [], _ => rfl
  | x :: t, h => by
    rw [List.flatMap_cons, List.flatMap_cons, h x (by simp), flatMap_congr fun y hy => h y (by simp [hy])]
theorem sub_eq {ns : List S43} (h : Tree ns) {i : Int} (h0 : 0 ≤ i) (h1 : i < ns.length) : sub ns i = i :: (kidL ns i).flatMap (sub ns) := by
  have hd := (h.deep i h0 h1).1
  obtain ⟨m, hm⟩ : ∃ m, 41 - q1s ns i = m + 1 := ⟨40 - q1s ns i, by omega⟩
  have e : sub ns i = i :: (kidL ns i).flatMap (pre ns m) := by unfold sub; rw [hm]; rfl
  rw [e]
  congr 1
  refine flatMap_congr fun c hc => ?_
  unfold sub
  rw [deep_kid h h0 h1 hc, show 41 - (q1s ns i + 1) = m by omega]
theorem sub_mem {ns : List S43} (h : Tree ns) : ∀ (d : Nat) (i : Int), 41 - q1s ns i ≤ d → 0 ≤ i → i < ns.length → ∀ x ∈ sub ns i, 0 ≤ x ∧ x < ns.length ∧ q1s ns i ≤ q1s ns x ∧ upN ns (q1s ns x - q1s ns i) x = i
  | 0, i, hd, h0, h1, x, hx => by
    have := (h.deep i h0 h1).1
    omega
  | d + 1, i, hd, h0, h1, x, hx => by
    rw [sub_eq h h0 h1] at hx
    rcases List.mem_cons.1 hx with rfl | hx
    · exact ⟨h0, h1, Nat.le_refl _, by rw [Nat.sub_self]; rfl⟩
    · obtain ⟨c, hc, hx⟩ := List.mem_flatMap.1 hx
      obtain ⟨c0, c1, cp⟩ := h.kid i c h0 h1 hc
      have hk := deep_kid h h0 h1 hc
      have hdi := (h.deep i h0 h1).1
      obtain ⟨x0, x1, x2, x3⟩ := sub_mem h d c (by omega) c0 c1 x hx
      refine ⟨x0, x1, by omega, ?_⟩
      rw [show q1s ns x - q1s ns i = (q1s ns x - q1s ns c) + 1 by omega, upN_succ, x3, cp]
theorem sub_facts {ns : List S43} (h : Tree ns) {i : Int} (h0 : 0 ≤ i) (h1 : i < ns.length) {x : Int} (hx : x ∈ sub ns i) : 0 ≤ x ∧ x < ns.length ∧ q1s ns i ≤ q1s ns x ∧ upN ns (q1s ns x - q1s ns i) x = i :=
  sub_mem h _ i (Nat.le_refl _) h0 h1 x hx
theorem nodup_flat {f : Int → List Int} : ∀ {l : List Int}, l.Nodup → (∀ c ∈ l, (f c).Nodup) → (∀ c ∈ l, ∀ c' ∈ l, ∀ x, x ∈ f c → x ∈ f c' → c = c') → (l.flatMap f).Nodup
  | [], _, _, _ => List.nodup_nil
  | c :: t, h, hf, hd => by
    rw [List.flatMap_cons]
    obtain ⟨hc, ht⟩ := List.nodup_cons.1 h
    refine List.nodup_append.2 ⟨hf c (by simp), nodup_flat ht (fun y hy => hf y (by simp [hy])) (fun y hy z hz x h1 h2 => hd y (by simp [hy]) z (by simp [hz]) x h1 h2), fun x hx y hy e => ?_⟩
    subst e
    obtain ⟨z, hz, hxz⟩ := List.mem_flatMap.1 hy
    exact hc (hd c (by simp) z (by simp [hz]) x hx hxz ▸ hz)
theorem sub_once {ns : List S43} (h : Tree ns) : ∀ (d : Nat) (i : Int), 41 - q1s ns i ≤ d → 0 ≤ i → i < ns.length → (sub ns i).Nodup
  | 0, i, hd, h0, h1 => by
    have := (h.deep i h0 h1).1
    omega
  | d + 1, i, hd, h0, h1 => by
    rw [sub_eq h h0 h1]
    have hdi := (h.deep i h0 h1).1
    refine List.nodup_cons.2 ⟨fun hi => ?_, nodup_flat (h.once i h0 h1) (fun c hc => ?_) fun c hc c' hc' x hx hx' => ?_⟩
    · obtain ⟨c, hc, hx⟩ := List.mem_flatMap.1 hi
      obtain ⟨c0, c1, _⟩ := h.kid i c h0 h1 hc
      have := (sub_facts h c0 c1 hx).2.2.1
      have := deep_kid h h0 h1 hc
      omega
    · obtain ⟨c0, c1, _⟩ := h.kid i c h0 h1 hc
      exact sub_once h d c (by have := deep_kid h h0 h1 hc; omega) c0 c1
    · obtain ⟨c0, c1, _⟩ := h.kid i c h0 h1 hc
      obtain ⟨c0', c1', _⟩ := h.kid i c' h0 h1 hc'
      have e := (sub_facts h c0 c1 hx).2.2.2
      have e' := (sub_facts h c0' c1' hx').2.2.2
      rw [deep_kid h h0 h1 hc] at e
      rw [deep_kid h h0 h1 hc'] at e'
      exact e.symm.trans e'
theorem sub_nodup {ns : List S43} (h : Tree ns) {i : Int} (h0 : 0 ≤ i) (h1 : i < ns.length) : (sub ns i).Nodup := sub_once h _ i (Nat.le_refl _) h0 h1
theorem few_of : ∀ (n : Nat) (l : List Int), l.Nodup → (∀ x ∈ l, 0 ≤ x ∧ x < n) → l.length ≤ n
  | 0, [], _, _ => Nat.le_refl _
  | 0, x :: t, _, h => by have := h x (by simp); omega
  | n + 1, l, hn, h => by
    have h2 : (l.filter (fun x => decide (x ≠ (n : Int)))).length ≤ n := by
      refine few_of n _ (hn.filter _) fun x hx => ?_
      have hx := List.mem_filter.1 hx
      have := h x hx.1
      have := of_decide_eq_true hx.2
      omega
    have h3 : l.length ≤ (l.filter (fun x => decide (x ≠ (n : Int)))).length + 1 := by
      clear h h2
      induction l with
      | nil => simp
      | cons x t ih =>
        obtain ⟨hx, ht⟩ := List.nodup_cons.1 hn
        by_cases e : x = (n : Int)
        · have : t.filter (fun x => decide (x ≠ (n : Int))) = t := by
            refine List.filter_eq_self.2 fun y hy => decide_eq_true fun e' => hx ?_
            rw [e, ← e']
            exact hy
          rw [List.filter_cons_of_neg (by simp [e]), this]
          simp
        · rw [List.filter_cons_of_pos (by simp [e])]
          have := ih ht
          simp only [List.length_cons]
          omega
    omega
theorem sub_few {ns : List S43} (h : Tree ns) {i : Int} (h0 : 0 ≤ i) (h1 : i < ns.length) : (sub ns i).length ≤ ns.length :=
  few_of _ _ (sub_nodup h h0 h1) fun x hx => ⟨(sub_facts h h0 h1 hx).1, (sub_facts h h0 h1 hx).2.1⟩
end Go.Proofs.YthjnallbbhnndaaDoor.Dm
namespace Go.Proofs.YthjnallbbhnndaaDoor.Dm
open Go Go.RowKit Go.Proofs.YthjnallbbhnndaaDoor.XWk Go.Proofs.YthjnallbbhnndaaDoorW.PrintWords Go.Proofs.YthjnallbbhnndaaDoorW.PrintLast
def idx : List Int → Int → Nat
  | [], _ => 0
  | y :: t, x => if y = x then 0 else idx t x + 1
theorem idx_mid : ∀ (U V : List Int) (x : Int), x ∉ U → idx (U ++ x :: V) x = U.length
  | [], V, x, _ => by simp [idx]
  | u :: U, V, x, h => by
    have h1 : ¬ u = x := fun e => h (by simp [e])
    have h2 : x ∉ U := fun e => h (by simp [e])
    rw [List.cons_append, idx, if_neg h1, idx_mid U V x h2]
    rfl
theorem rd_mid (U V : List Int) (x : Int) : rd (U ++ x :: V) (U.length : Int) = x := by
  simp [rd, List.getD]
def hdI : List Int → Int
  | [] => -1
  | b :: _ => b
def lsI (l : List Int) : Int := l.getLast?.getD (-1)
theorem lsI_snoc (l : List Int) (x : Int) : lsI (l ++ [x]) = x := by simp [lsI]
theorem lsI_app (l m : List Int) (h : m ≠ []) : lsI (l ++ m) = lsI m := by
  unfold lsI
  rw [List.getLast?_append]
  cases hm : m.getLast? with
  | none => exact absurd (List.getLast?_eq_none_iff.1 hm) h
  | some a => rfl
def q1z (ns : List S43) (x by_ : Int) : Int :=
  if par ns x < 0 then -1 else
    if (idx (kidL ns (par ns x)) x : Int) + by_ < 0 ∨ (idx (kidL ns (par ns x)) x : Int) + by_ ≥ ((kidL ns (par ns x)).length : Int) then -1 else rd (kidL ns (par ns x)) ((idx (kidL ns (par ns x)) x : Int) + by_)
def overI (ns : List S43) : Nat → Int → Int
  | 0, _ => -1
  | d + 1, x => if q1z ns x 1 ≥ 0 then q1z ns x 1 else if par ns x < 0 then -1 else overI ns d (par ns x)
def lastD (ns : List S43) : Nat → Int → Int
  | 0, x => x
  | d + 1, x => if (kidL ns x).length = 0 then x else lastD ns d (rd (kidL ns x) ((kidL ns x).length - 1 : Int))
def lastI (ns : List S43) (x : Int) : Int := if q1z ns x (-1) < 0 then par ns x else lastD ns (41 - q1s ns (q1z ns x (-1))) (q1z ns x (-1))
theorem sub_ne {ns : List S43} (h : Tree ns) {i : Int} (h0 : 0 ≤ i) (h1 : i < ns.length) : sub ns i ≠ [] := by rw [sub_eq h h0 h1]; simp
theorem last_sub {ns : List S43} (h : Tree ns) : ∀ (d : Nat) (i : Int), 41 - q1s ns i = d → 0 ≤ i → i < ns.length → lsI (sub ns i) = lastD ns d i
  | 0, i, hd, h0, h1 => by
    have := (h.deep i h0 h1).1
    omega
  | d + 1, i, hd, h0, h1 => by
    rw [sub_eq h h0 h1, lastD]
    by_cases c : (kidL ns i).length = 0
    · rw [if_pos c, List.eq_nil_of_length_eq_zero c]
      rfl
    · rw [if_neg c]
      obtain ⟨U, u, hU⟩ : ∃ U u, kidL ns i = U ++ [u] := ⟨(kidL ns i).dropLast, (kidL ns i).getLast (fun e => c (by rw [e]; rfl)), (List.dropLast_concat_getLast _).symm⟩
      have hm : u ∈ kidL ns i := by rw [hU]; simp
      obtain ⟨u0, u1, _⟩ := h.kid i u h0 h1 hm
      have hk := deep_kid h h0 h1 hm
      rw [hU]
      have e1 : rd (U ++ [u]) (((U ++ [u]).length : Int) - 1) = u := by
        rw [show (((U ++ [u]).length : Int) - 1) = (U.length : Int) by simp]
        exact rd_mid U [] u
      rw [e1, List.flatMap_append, List.flatMap_cons, List.flatMap_nil, List.append_nil, ← List.cons_append, lsI_app _ _ (sub_ne h u0 u1), last_sub h d u (by omega) u0 u1]
theorem way {ns : List S43} (h : Tree ns) : ∀ (d : Nat) (x : Int), q1s ns x = d → 0 ≤ x → x < ns.length → upN ns d x = 0 →
    ∃ A B, sub ns 0 = A ++ sub ns x ++ B ∧ overI ns (d + 1) x = hdI B ∧ lastI ns x = lsI A
  | 0, x, hd, h0, h1, hu => by
    obtain rfl : x = 0 := hu
    have hb : ∀ b, q1z ns 0 b = -1 := fun b => by unfold q1z; rw [if_pos (by rw [h.root]; decide)]
    refine ⟨[], [], by simp, ?_, ?_⟩
    · rw [overI, hb, if_neg (by decide), h.root, if_pos (by decide)]
      rfl
    · unfold lastI
      rw [hb, if_pos (by decide), h.root]
      rfl
  | d + 1, x, hd, h0, h1, hu => by
    have hp : ¬ par ns x < 0 := fun hp => by
      have := deep_root h hp
      omega
    obtain ⟨p, hpe⟩ : ∃ p, par ns x = p := ⟨_, rfl⟩
    rcases h.up x h0 h1 with hr | ⟨p0, p1, hx⟩
    · omega
    have hdp := deep_up h h0 h1 p0
    rw [hpe] at p0 p1 hx hdp hp
    have hu' : upN ns d p = 0 := by
      have : upN ns (d + 1) x = upN ns d (par ns x) := rfl
      rw [hpe] at this
      rw [← this]
      exact hu
    obtain ⟨A, B, hs, ho, hl⟩ := way h d p (by omega) p0 p1 hu'
    obtain ⟨U, V, hk⟩ := List.append_of_mem hx
    have hn := h.once p p0 p1
    rw [hk] at hn
    have hxU : x ∉ U := fun hxU => by
      have := List.nodup_append.1 hn
      exact this.2.2 x hxU x (by simp) rfl
    have hix : idx (kidL ns p) x = U.length := by rw [hk]; exact idx_mid U V x hxU
    have hlen : (kidL ns p).length = U.length + 1 + V.length := by rw [hk]; simp; omega
    have bes : ∀ b, q1z ns x b = if (U.length : Int) + b < 0 ∨ (U.length : Int) + b ≥ ((U.length + 1 + V.length : Nat) : Int) then -1 else rd (U ++ x :: V) ((U.length : Int) + b) := by
      intro b
      unfold q1z
      rw [hpe, if_neg hp, hix, hlen, hk]
    refine ⟨A ++ p :: U.flatMap (sub ns), V.flatMap (sub ns) ++ B, ?_, ?_, ?_⟩
    · rw [hs, sub_eq h p0 p1, hk, List.flatMap_append, List.flatMap_cons]
      simp [List.append_assoc]
    · have step : overI ns (d + 1 + 1) x = if q1z ns x 1 ≥ 0 then q1z ns x 1 else if p < 0 then -1 else overI ns (d + 1) p := by rw [overI, hpe]
      rw [step]
      cases V with
      | nil =>
        have b1 : q1z ns x 1 = -1 := by
          rw [bes]
          exact if_pos (.inr (by simp))
        rw [b1, if_neg (by decide), if_neg hp, ho]
        rfl
      | cons v V =>
        have hv : v ∈ kidL ns p := by rw [hk]; simp
        obtain ⟨v0, v1, _⟩ := h.kid p v p0 p1 hv
        have e : rd (U ++ x :: v :: V) ((U.length : Int) + 1) = v := by
          have := rd_mid (U ++ [x]) V v
          rw [List.append_assoc] at this
          simpa using this
        have b1 : q1z ns x 1 = v := by
          rw [bes, if_neg (by simp only [List.length_cons]; omega), e]
        rw [b1, if_pos v0, List.flatMap_cons, sub_eq h v0 v1]
        rfl
    · unfold lastI
      rcases List.eq_nil_or_concat U with hU | ⟨U', u, hU⟩
      · subst hU
        have b1 : q1z ns x (-1) = -1 := by
          rw [bes]
          exact if_pos (.inl (by simp))
        rw [b1, if_pos (by decide), hpe, List.flatMap_nil]
        exact (lsI_snoc A p).symm
      · rw [List.concat_eq_append] at hU
        subst hU
        have hv : u ∈ kidL ns p := by rw [hk]; simp
        obtain ⟨u0, u1, _⟩ := h.kid p u p0 p1 hv
        have e : rd (U' ++ [u] ++ x :: V) (((U' ++ [u]).length : Int) + -1) = u := by
          have := rd_mid U' (x :: V) u
          rw [show (((U' ++ [u]).length : Int) + -1) = (U'.length : Int) by (simp only [List.length_append, List.length_cons, List.length_nil]; omega), List.append_assoc]
          exact this
        have b1 : q1z ns x (-1) = u := by
          rw [bes, if_neg (by simp only [List.length_append, List.length_cons, List.length_nil]; omega), e]
        rw [b1, if_neg (by omega), List.flatMap_append, List.flatMap_cons, List.flatMap_nil, List.append_nil, ← List.cons_append, ← List.append_assoc, lsI_app _ _ (sub_ne h u0 u1), last_sub h _ u rfl u0 u1]
theorem below_l0 {ns : List S43} (h : Tree ns) (q : Bool) (i : Int) (h0 : 0 ≤ i) (h1 : i < ns.length) (B : Nat) (H : ∀ c ∈ kidL ns i, ∀ k, B < k → q0c.f k ns q c = some (sub ns c)) (d : Nat) : ∀ (j k : Nat) (o : List Int), j + d = (kidL ns i).length →
    o.length + ((kidL ns i).drop j |>.flatMap (sub ns)).length ≤ 1000 → B + d + 1 < k → q0c.l0 k i o (j : Int) ns q = some (o ++ ((kidL ns i).drop j).flatMap (sub ns)) := by
  induction d with
  | zero =>
    intro j k o hj ho hk
    obtain ⟨k, rfl⟩ : ∃ z, k = z + 1 := ⟨k - 1, by omega⟩
    rw [q0c.l0, if_pos h0, if_pos h1, show (q05 ns i).f5 = kidL ns i from rfl, if_neg (by omega), List.drop_eq_nil_of_le (by omega)]
    simp
  | succ d ih =>
    intro j k o hj ho hk
    obtain ⟨k, rfl⟩ : ∃ z, k = z + 1 := ⟨k - 1, by omega⟩
    have hlt : j < (kidL ns i).length := by omega
    have hjn : j ≤ 4611686018427387904 := by
      have := few_of ns.length (kidL ns i) (h.once i h0 h1) fun x hx => ⟨(h.kid i x h0 h1 hx).1, (h.kid i x h0 h1 hx).2.1⟩
      have := h.many
      omega
    have hd := dropK (kidL ns i) j hlt
    rw [hd, List.flatMap_cons, List.length_append] at ho
    have hm : rd (kidL ns i) (j : Int) ∈ kidL ns i := by
      have : rd (kidL ns i) (j : Int) ∈ (kidL ns i).drop j := by rw [hd]; simp
      exact List.mem_of_mem_drop this
    rw [q0c.l0, if_pos h0, if_pos h1, show (q05 ns i).f5 = kidL ns i from rfl, if_pos (by omega), if_pos (by omega), H _ hm k (by omega), Option.bind_some, if_pos (by omega), w1 j hjn, ih (j + 1) k _ (by omega) (by rw [List.length_append]; omega) (by omega), hd, List.flatMap_cons, List.append_assoc]
theorem below_eq {ns : List S43} (h : Tree ns) (q : Bool) : ∀ (d : Nat) (i : Int), 41 - q1s ns i ≤ d → 0 ≤ i → i < ns.length → ∀ k, 210 * d < k → q0c.f k ns q i = some (sub ns i)
  | 0, i, hd, h0, h1, k, hk => by
    have := (h.deep i h0 h1).1
    omega
  | d + 1, i, hd, h0, h1, k, hk => by
    obtain ⟨k, rfl⟩ : ∃ z, k = z + 1 := ⟨k - 1, by omega⟩
    have hn := few_of ns.length (kidL ns i) (h.once i h0 h1) fun x hx => ⟨(h.kid i x h0 h1 hx).1, (h.kid i x h0 h1 hx).2.1⟩
    have hm := h.many
    have hl := sub_few h h0 h1
    rw [sub_eq h h0 h1, List.length_cons] at hl
    rw [q0c.f, sub_eq h h0 h1]
    have := below_l0 h q i h0 h1 (210 * d) (fun c hc k hk => by
      obtain ⟨c0, c1, _⟩ := h.kid i c h0 h1 hc
      have hdk := deep_kid h h0 h1 hc
      have hdi := (h.deep i h0 h1).1
      exact below_eq h q d c (by omega) c0 c1 k hk) (kidL ns i).length 0 k [i] (by omega) (by rw [List.drop_zero]; simp only [List.length_cons, List.length_nil]; omega) (by omega)
    rw [List.drop_zero] at this
    exact this
theorem below_all {ns : List S43} (h : Tree ns) (q : Bool) (i : Int) (h0 : 0 ≤ i) (h1 : i < ns.length) (k : Nat) (hk : 8610 < k) : q0c.f k ns q i = some (sub ns i) := below_eq h q 41 i (by omega) h0 h1 k (by omega)
end Go.Proofs.YthjnallbbhnndaaDoor.Dm
namespace Go.Proofs.YthjnallbbhnndaaDoor.Dm
open Go Go.RowKit Go.Proofs.YthjnallbbhnndaaDoor.XWk Go.Proofs.YthjnallbbhnndaaDoorW.PrintWords Go.Proofs.YthjnallbbhnndaaDoorW.PrintLast
def idxI (l : List Int) (x : Int) : Int := if hasK l x = true then (idx l x : Int) else -1
theorem hasK_cons (y : Int) (t : List Int) (x : Int) : hasK (y :: t) x = (decide (y = x) || hasK t x) := rfl
theorem index_l0 (o : List Int) (x : Int) (ho : o.length ≤ 4611686018427387900) (d : Nat) : ∀ (i k : Nat), i + d = o.length → d < k →
    q0o.l0 k o x (o.length : Int) (i : Int) = some (if hasK (o.drop i) x = true then ((i + idx (o.drop i) x : Nat) : Int) else -1) := by
  induction d with
  | zero =>
    intro i k h hk
    obtain ⟨k, rfl⟩ : ∃ z, k = z + 1 := ⟨k - 1, by omega⟩
    rw [q0o.l0, if_neg (by omega), List.drop_eq_nil_of_le (by omega)]
    rfl
  | succ d ih =>
    intro i k h hk
    obtain ⟨k, rfl⟩ : ∃ z, k = z + 1 := ⟨k - 1, by omega⟩
    rw [q0o.l0, if_pos (by omega), if_pos (by omega), if_pos (by omega), w1 i (by omega), ih (i + 1) k (by omega) (by omega), dropK o i (by omega), hasK_cons, idx]
    by_cases c : x = rd o (i : Int)
    · rw [if_pos c, decide_eq_true c.symm, Bool.true_or, if_pos rfl, if_pos c.symm]
      rfl
    · rw [if_neg c, decide_eq_false (p := rd o (i : Int) = x) (fun e => c e.symm), Bool.false_or, if_neg (c := rd o (i : Int) = x) (fun e => c e.symm)]
      split
      · congr 1
        omega
      · rfl
theorem index_eq (o : List Int) (x : Int) (ho : o.length ≤ 4611686018427387900) (k : Nat) (hk : o.length < k) : q0o.f k o x = some (idxI o x) := by
  unfold q0o.f
  have := index_l0 o x ho o.length 0 k (by omega) hk
  rw [List.drop_zero, show ((0 : Nat) : Int) = 0 from rfl, Nat.zero_add] at this
  exact this
theorem place_l0' (o : List Int) (x : Int) (ho : o.length ≤ 4611686018427387900) (d : Nat) : ∀ (i k : Nat), i + d = o.length → d < k →
    q08.l0 k o x (i : Int) = some (if hasK (o.drop i) x = true then ((i + idx (o.drop i) x : Nat) : Int) else -1) := by
  induction d with
  | zero =>
    intro i k h hk
    obtain ⟨k, rfl⟩ : ∃ z, k = z + 1 := ⟨k - 1, by omega⟩
    rw [q08.l0, if_neg (by omega), List.drop_eq_nil_of_le (by omega)]
    rfl
  | succ d ih =>
    intro i k h hk
    obtain ⟨k, rfl⟩ : ∃ z, k = z + 1 := ⟨k - 1, by omega⟩
    rw [q08.l0, if_pos (by omega), if_pos (by omega), w1 i (by omega), ih (i + 1) k (by omega) (by omega), dropK o i (by omega), hasK_cons, idx]
    by_cases c : rd o (i : Int) = x
    · rw [if_pos c, decide_eq_true c, Bool.true_or, if_pos rfl, if_pos c]
      rfl
    · rw [if_neg c, decide_eq_false c, Bool.false_or, if_neg c]
      split
      · congr 1
        omega
      · rfl
theorem place_eq (o : List Int) (x : Int) (ho : o.length ≤ 4611686018427387900) (k : Nat) (hk : o.length < k) : q08.f k o x = some (idxI o x) := by
  unfold q08.f
  have := place_l0' o x ho o.length 0 k (by omega) hk
  rw [List.drop_zero, show ((0 : Nat) : Int) = 0 from rfl, Nat.zero_add] at this
  exact this
theorem idxI_mem {l : List Int} {x : Int} (h : x ∈ l) : idxI l x = (idx l x : Int) := if_pos ((mem_hasK l x).2 h)
theorem idx_lt : ∀ {l : List Int} {x : Int}, x ∈ l → idx l x < l.length
  | y :: t, x, h => by
    unfold idx
    by_cases c : y = x
    · rw [if_pos c]; simp
    · rw [if_neg c]
      have := idx_lt (l := t) (x := x) (by
        rcases List.mem_cons.1 h with e | e
        · exact absurd e.symm c
        · exact e)
      simp only [List.length_cons]
      omega
section
variable {ns : List S43} (h : Tree ns) (q : Bool)
include h
theorem kid_len {i : Int} (h0 : 0 ≤ i) (h1 : i < ns.length) : (kidL ns i).length ≤ 200 := by
  have := few_of ns.length (kidL ns i) (h.once i h0 h1) fun x hx => ⟨(h.kid i x h0 h1 hx).1, (h.kid i x h0 h1 hx).2.1⟩
  have := h.many
  omega
theorem beside_eq {x b : Int} (h0 : 0 ≤ x) (h1 : x < ns.length) (hb : b = 1 ∨ b = -1) (k : Nat) (hk : 300 < k) : q0r.f k ns q x b = some (q1z ns x b, q) := by
  unfold q0r.f
  rw [if_pos h0, if_pos h1]
  show (if par ns x < 0 then _ else _) = _
  unfold q1z
  by_cases c : par ns x < 0
  · rw [if_pos c, if_pos c]
  · rw [if_neg c, if_neg c]
    rcases h.up x h0 h1 with hr | ⟨p0, p1, hx⟩
    · omega
    have hl := kid_len h p0 p1
    have hi := idx_lt hx
    show (if 0 ≤ par ns x then (if par ns x < (ns.length : Int) then (q0o.f k (kidL ns (par ns x)) x).bind fun t171 => (if (wrap64 (t171 + b)) < 0 then (some ((-1), q)) else (if (wrap64 (t171 + b)) ≥ ((kidL ns (par ns x)).length : Int) then (some ((-1), q)) else (if 0 ≤ (wrap64 (t171 + b)) then (if (wrap64 (t171 + b)) < ((kidL ns (par ns x)).length : Int) then (some (rd (kidL ns (par ns x)) (wrap64 (t171 + b)), q)) else (none)) else (none)))) else none) else none) = _
    rw [if_pos p0, if_pos p1, index_eq _ _ (by omega) k (by omega), Option.bind_some, idxI_mem hx]
    rw [show wrap64 ((idx (kidL ns (par ns x)) x : Int) + b) = (idx (kidL ns (par ns x)) x : Int) + b by unfold wrap64; omega]
    by_cases c1 : (idx (kidL ns (par ns x)) x : Int) + b < 0
    · rw [if_pos c1, if_pos (.inl c1)]
    · rw [if_neg c1]
      by_cases c2 : (idx (kidL ns (par ns x)) x : Int) + b ≥ ((kidL ns (par ns x)).length : Int)
      · rw [if_pos c2, if_pos (.inr c2)]
      · rw [if_neg c2, if_pos (by omega), if_pos (by omega), if_neg (by omega)]
theorem over_l0 : ∀ (d : Nat) (x : Int), q1s ns x = d → 0 ≤ x → x < ns.length → ∀ k, 302 + d < k → q0q.l0 k x ns q = some (overI ns (d + 1) x, q)
  | d, x, hd, h0, h1, k, hk => by
    obtain ⟨k, rfl⟩ : ∃ z, k = z + 1 := ⟨k - 1, by omega⟩
    rw [q0q.l0, if_pos h0, beside_eq h q h0 h1 (.inl rfl) k (by omega), Option.bind_some, overI]
    by_cases c : q1z ns x 1 ≥ 0
    · rw [if_pos c, if_pos c]
    · rw [if_neg c, if_neg c, if_pos h0, if_pos h1]
      show q0q.l0 k (par ns x) ns q = _
      by_cases c2 : par ns x < 0
      · rw [if_pos c2]
        obtain ⟨k, rfl⟩ : ∃ z, k = z + 1 := ⟨k - 1, by omega⟩
        rw [q0q.l0, if_neg (by omega)]
      · rw [if_neg c2]
        rcases h.up x h0 h1 with hr | ⟨p0, p1, hx⟩
        · omega
        have hu := deep_up h h0 h1 p0
        obtain ⟨d', rfl⟩ : ∃ d', d = d' + 1 := ⟨d - 1, by omega⟩
        exact over_l0 d' (par ns x) (by omega) p0 p1 k (by omega)
theorem over_eq {x : Int} (h0 : 0 ≤ x) (h1 : x < ns.length) (k : Nat) (hk : 400 < k) : q0q.f k ns q x = some (overI ns (q1s ns x + 1) x, q) := by
  have := (h.deep x h0 h1).1
  exact over_l0 h q (q1s ns x) x rfl h0 h1 k (by omega)
omit h in
theorem kid_first {x : Int} (h0 : 0 ≤ x) (h1 : x < ns.length) : q1b.f ns q x false = some (hdI (kidL ns x), q) := by
  unfold q1b.f
  rw [if_pos h0, if_pos h1]
  show (if ((kidL ns x).length : Int) = 0 then some (-1, q) else if false = true then _ else if 0 < ((kidL ns x).length : Int) then some (rd (kidL ns x) 0, q) else none) = _
  cases hk : kidL ns x with
  | nil => rfl
  | cons c t =>
    rw [if_neg (by simp only [List.length_cons]; omega), if_neg Bool.false_ne_true, if_pos (by simp only [List.length_cons]; omega)]
    rfl
theorem kid_last {x : Int} (h0 : 0 ≤ x) (h1 : x < ns.length) : q1b.f ns q x true = some (if (kidL ns x).length = 0 then -1 else rd (kidL ns x) ((kidL ns x).length - 1 : Int), q) := by
  have hl := kid_len h h0 h1
  unfold q1b.f
  rw [if_pos h0, if_pos h1]
  show (if ((kidL ns x).length : Int) = 0 then some (-1, q) else if true = true then (if 0 ≤ (wrap64 (((kidL ns x).length : Int) - 1)) then (if (wrap64 (((kidL ns x).length : Int) - 1)) < ((kidL ns x).length : Int) then (some (rd (kidL ns x) (wrap64 (((kidL ns x).length : Int) - 1)), q)) else (none)) else (none)) else _) = _
  rw [wm _ (by omega)]
  by_cases c : (kidL ns x).length = 0
  · rw [if_pos (by omega), if_pos c]
  · rw [if_neg (by omega), if_pos rfl, if_pos (by omega), if_pos (by omega), if_neg c]
omit h in
theorem last_mem {x : Int} (hk : (kidL ns x).length ≠ 0) : rd (kidL ns x) ((kidL ns x).length - 1 : Int) ∈ kidL ns x := by
  have : (kidL ns x).drop ((kidL ns x).length - 1) = rd (kidL ns x) (((kidL ns x).length - 1 : Nat) : Int) :: (kidL ns x).drop ((kidL ns x).length - 1 + 1) := dropK _ _ (by omega)
  rw [show ((kidL ns x).length : Int) - 1 = (((kidL ns x).length - 1 : Nat) : Int) by omega]
  exact List.mem_of_mem_drop (this ▸ List.mem_cons_self)
theorem last_l0 : ∀ (d : Nat) (x : Int), 41 - q1s ns x = d → 0 ≤ x → x < ns.length → ∀ k, d + 1 < k → q0t.l0 k x ns q = some (lastD ns d x, q)
  | 0, x, hd, h0, h1, k, hk => by
    have := (h.deep x h0 h1).1
    omega
  | d + 1, x, hd, h0, h1, k, hk => by
    obtain ⟨k, rfl⟩ : ∃ z, k = z + 1 := ⟨k - 1, by omega⟩
    have e := kid_last h q h0 h1
    rw [lastD]
    by_cases c : (kidL ns x).length = 0
    · rw [if_pos c] at e
      rw [q0t.l0, e, Option.bind_some, if_neg (show ¬ ((-1 : Int) ≥ 0) by decide), if_pos c]
    · rw [if_neg c] at e
      rw [if_neg c]
      have hm := last_mem c
      obtain ⟨u0, u1, _⟩ := h.kid x _ h0 h1 hm
      have hkd := deep_kid h h0 h1 hm
      rw [q0t.l0, e, Option.bind_some, if_pos u0]
      show ((q1b.f ns q x true).bind fun bt188 => q0t.l0 k bt188.1 ns bt188.2) = _
      rw [e, Option.bind_some]
      exact last_l0 d _ (by omega) u0 u1 k (by omega)
theorem beside_in {x b : Int} (h0 : 0 ≤ x) (h1 : x < ns.length) (hb : 0 ≤ q1z ns x b) : q1z ns x b < ns.length := by
  unfold q1z at hb ⊢
  by_cases c : par ns x < 0
  · rw [if_pos c] at hb; omega
  · rw [if_neg c] at hb ⊢
    rcases h.up x h0 h1 with hr | ⟨p0, p1, hx⟩
    · omega
    by_cases c1 : (idx (kidL ns (par ns x)) x : Int) + b < 0 ∨ (idx (kidL ns (par ns x)) x : Int) + b ≥ ((kidL ns (par ns x)).length : Int)
    · rw [if_pos c1] at hb; omega
    · rw [if_neg c1] at hb ⊢
      obtain ⟨m, hm⟩ : ∃ m : Nat, (idx (kidL ns (par ns x)) x : Int) + b = (m : Int) := ⟨((idx (kidL ns (par ns x)) x : Int) + b).toNat, by omega⟩
      rw [hm]
      have hd := dropK (kidL ns (par ns x)) m (by omega)
      exact (h.kid (par ns x) _ p0 p1 (List.mem_of_mem_drop (hd ▸ List.mem_cons_self))).2.1
theorem last_eq {x : Int} (h0 : 0 ≤ x) (h1 : x < ns.length) (k : Nat) (hk : 400 < k) : q0t.f k ns q x = some (lastI ns x, q) := by
  unfold q0t.f lastI
  rw [beside_eq h q h0 h1 (.inr rfl) k (by omega), Option.bind_some]
  by_cases c : q1z ns x (-1) < 0
  · rw [if_pos c, if_pos c, if_pos h0, if_pos h1]
    rfl
  · rw [if_neg c, if_neg c]
    exact last_l0 h q _ _ rfl (by omega) (beside_in h h0 h1 (by omega)) k (by omega)
theorem next_eq {x : Int} (h0 : 0 ≤ x) (h1 : x < ns.length) (k : Nat) (hk : 400 < k) : q1g.f k ns q x = some (if (kidL ns x) = [] then overI ns (q1s ns x + 1) x else hdI (kidL ns x), q) := by
  unfold q1g.f
  rw [kid_first q h0 h1, Option.bind_some]
  cases hkl : kidL ns x with
  | nil =>
    rw [if_neg (show ¬ ((hdI []) ≥ 0) by decide), over_eq h q h0 h1 k hk, Option.bind_some, if_pos rfl]
  | cons c t =>
    have hc : c ∈ kidL ns x := by rw [hkl]; simp
    rw [if_pos (show hdI (c :: t) ≥ 0 from (h.kid x c h0 h1 hc).1), if_neg (by simp)]
end
end Go.Proofs.YthjnallbbhnndaaDoor.Dm
namespace Go.Proofs.YthjnallbbhnndaaDoor.Dm
open Go Go.RowKit Go.Proofs.YthjnallbbhnndaaDoor.XWk Go.Proofs.YthjnallbbhnndaaDoorW.PrintWords Go.Proofs.YthjnallbbhnndaaDoorW.PrintLast
theorem rd_set (l : List Int) (a m : Nat) (v : Int) (ha : a < l.length) : rd (l.set a v) (m : Int) = if m = a then v else rd l (m : Int) := by
  unfold rd
  simp only [List.getD_eq_getElem?_getD, List.getElem?_set, Int.toNat_natCast]
  by_cases h : m = a
  · subst h; simp [ha]
  · rw [if_neg (fun e => h e.symm), if_neg h]
theorem rev_l0 (l : List Int) (hl : l.length ≤ 4611686018427387900) (d : Nat) : ∀ (x : List Int) (i k : Nat), x.length = l.length → l.length - 2 * i ≤ d → 2 * i ≤ l.length + 1 → d < k → (∀ m : Nat, m < l.length → rd x (m : Int) = if m < i ∨ l.length - 1 - i < m then rd l ((l.length - 1 - m : Nat) : Int) else rd l (m : Int)) →
    ∃ r, q0f.l0 k x (i : Int) ((l.length : Int) - 1 - i) = some r ∧ r.length = l.length ∧ ∀ m : Nat, m < l.length → rd r (m : Int) = rd l ((l.length - 1 - m : Nat) : Int) := by
  induction d with
  | zero =>
    intro x i k hx hd h2 hk hI
    obtain ⟨k, rfl⟩ : ∃ z, k = z + 1 := ⟨k - 1, by omega⟩
    refine ⟨x, by rw [q0f.l0, if_neg (by omega)], hx, fun m hm => ?_⟩
    rw [hI m hm]
    split
    · rfl
    · rw [show l.length - 1 - m = m by omega]
  | succ d ih =>
    intro x i k hx hd h2 hk hI
    obtain ⟨k, rfl⟩ : ∃ z, k = z + 1 := ⟨k - 1, by omega⟩
    by_cases c : (i : Int) < (l.length : Int) - 1 - i
    · obtain ⟨j, hj⟩ : ∃ j : Nat, (l.length : Int) - 1 - i = (j : Int) := ⟨l.length - 1 - i, by omega⟩
      rw [q0f.l0, if_pos c, hj, if_pos (by omega), if_pos (by omega), if_pos (by omega), if_pos (by omega)]
      rw [w1 i (by omega), wm j (by omega), show ((i : Nat) : Int).toNat = i from rfl, show ((j : Nat) : Int).toNat = j from rfl, show (j : Int) - 1 = (l.length : Int) - 1 - ((i + 1 : Nat) : Int) by omega]
      refine ih _ (i + 1) k (by rw [List.length_set, List.length_set]; exact hx) (by omega) (by omega) (by omega) fun m hm => ?_
      have ii := hI i (by omega)
      have ij := hI j (by omega)
      rw [rd_set _ _ _ _ (by rw [List.length_set]; omega), rd_set _ _ _ _ (by omega)]
      by_cases m1 : m = j
      · rw [if_pos m1, if_pos (by omega), ii, if_neg (by omega), show l.length - 1 - m = i by omega]
      · rw [if_neg m1]
        by_cases m2 : m = i
        · rw [if_pos m2, if_pos (by omega), ij, if_neg (by omega), show l.length - 1 - m = j by omega]
        · rw [if_neg m2, hI m hm]
          by_cases m3 : m < i ∨ l.length - 1 - i < m
          · rw [if_pos m3, if_pos (by omega)]
          · rw [if_neg m3, if_neg (by omega)]
    · refine ⟨x, by rw [q0f.l0, if_neg c], hx, fun m hm => ?_⟩
      rw [hI m hm]
      split
      · rfl
      · rw [show l.length - 1 - m = m by omega]
theorem rev_eq (l : List Int) (hl : l.length ≤ 4611686018427387900) (k : Nat) (hk : l.length < k) : ∃ r, q0f.f k l = some r ∧ r.length = l.length ∧ ∀ m : Nat, m < l.length → rd r (m : Int) = rd l ((l.length - 1 - m : Nat) : Int) := by
  unfold q0f.f
  by_cases c : l.length = 0
  · obtain ⟨k, rfl⟩ : ∃ z, k = z + 1 := ⟨k - 1, by omega⟩
    refine ⟨l, ?_, rfl, fun m hm => by omega⟩
    rw [q0f.l0, wm _ (by omega), if_neg (by omega)]
  · have := rev_l0 l hl l.length l 0 k rfl (by omega) (by omega) hk (fun m hm => by rw [if_neg (by omega)])
    rw [wm _ (by omega)]
    simpa using this
def chainL (ns : List S43) : Nat → Int → List Int
  | 0, x => [x]
  | d + 1, x => x :: chainL ns d (par ns x)
theorem chain_len (ns : List S43) : ∀ (d : Nat) (x : Int), (chainL ns d x).length = d + 1
  | 0, _ => rfl
  | d + 1, x => by simp [chainL, chain_len ns d]
theorem chain_last (ns : List S43) : ∀ (d : Nat) (x : Int), rd (chainL ns d x) (d : Int) = upN ns d x
  | 0, _ => rfl
  | d + 1, x => by
    have := chain_last ns d (par ns x)
    simpa [rd, List.getD, chainL, upN] using this
section
variable {ns : List S43} (h : Tree ns) (q : Bool)
include h
set_option maxRecDepth 10000 in
theorem path_l0 : ∀ (d : Nat) (x : Int), q1s ns x = d → 0 ≤ x → x < ns.length → ∀ (o : List Int) (k : Nat), o.length + d + 1 ≤ 100 → d + 110 < k → ∃ r, q0s.l0 k x o ns q = some (r, q) ∧ r.length = o.length + (d + 1) ∧ ∀ m : Nat, m < r.length → rd r (m : Int) = rd (o ++ chainL ns d x) ((r.length - 1 - m : Nat) : Int)
  | d, x, hd, h0, h1, o, k, ho, hk => by
    obtain ⟨k, rfl⟩ : ∃ z, k = z + 1 := ⟨k - 1, by omega⟩
    rw [q0s.l0, if_pos h0, if_pos (by omega), if_pos h0, if_pos h1]
    show ∃ r, q0s.l0 k (par ns x) (o ++ [x]) ns q = some (r, q) ∧ _
    by_cases c : par ns x < 0
    · have hd0 := deep_root h c
      obtain rfl : d = 0 := by omega
      obtain ⟨k, rfl⟩ : ∃ z, k = z + 1 := ⟨k - 1, by omega⟩
      obtain ⟨r, hr1, hr2, hr3⟩ := rev_eq (o ++ [x]) (by rw [List.length_append]; simp only [List.length_cons, List.length_nil]; omega) k (by rw [List.length_append]; simp only [List.length_cons, List.length_nil]; omega)
      refine ⟨r, by rw [q0s.l0, if_neg (by omega), hr1, Option.bind_some], by rw [hr2]; simp, fun m hm => ?_⟩
      rw [hr3 m (by omega), hr2]
      rfl
    · rcases h.up x h0 h1 with hr | ⟨p0, p1, hx⟩
      · omega
      have hu := deep_up h h0 h1 p0
      obtain ⟨d', rfl⟩ : ∃ d', d = d' + 1 := ⟨d - 1, by omega⟩
      obtain ⟨r, hr1, hr2, hr3⟩ := path_l0 d' (par ns x) (by omega) p0 p1 (o ++ [x]) k (by rw [List.length_append]; simp only [List.length_cons, List.length_nil]; omega) (by omega)
      refine ⟨r, hr1, by rw [hr2, List.length_append]; simp only [List.length_cons, List.length_nil]; omega, fun m hm => ?_⟩
      rw [hr3 m hm, List.append_assoc]
      rfl
theorem path_eq {x : Int} (h0 : 0 ≤ x) (h1 : x < ns.length) (k : Nat) (hk : 1100 < k) : ∃ r, q0s.f k ns q x = some (r, q) ∧ 0 < r.length ∧ rd r 0 = upN ns (q1s ns x) x := by
  have hd := (h.deep x h0 h1).1
  obtain ⟨r, h1', h2, h3⟩ := path_l0 h q (q1s ns x) x rfl h0 h1 [] k (by simp; omega) (by omega)
  simp only [List.length_nil, Nat.zero_add, List.nil_append] at h2 h3
  refine ⟨r, h1', by omega, ?_⟩
  have := h3 0 (by omega)
  rw [show ((0 : Nat) : Int) = 0 from rfl, h2] at this
  rw [this, show q1s ns x + 1 - 1 - 0 = q1s ns x by omega]
  exact chain_last ns _ x
theorem off_one {x : Int} (h0 : 0 ≤ x) (h1 : x < ns.length) (k : Nat) (hk : 1100 < k) : q0g.offR k ns q [x] = some (if upN ns (q1s ns x) x = 0 then 0 else 5) := by
  obtain ⟨r, hr1, hr2, hr3⟩ := path_eq h q h0 h1 k hk
  unfold q0g.offR
  rw [hr1, Option.bind_some, if_pos ⟨hr2, rfl⟩]
  show (if rd r 0 = 0 then _ else _) = _
  rw [hr3]
  split <;> rfl
theorem under_l0 : ∀ (d : Nat) (x : Int), q1s ns x = d → 0 ≤ x → x < ns.length → ∀ k, d + 1 < k → q0j.l0 k x 0 ns q = some (decide (upN ns d x = 0))
  | d, x, hd, h0, h1, k, hk => by
    obtain ⟨k, rfl⟩ : ∃ z, k = z + 1 := ⟨k - 1, by omega⟩
    rw [q0j.l0]
    by_cases c0 : x = 0
    · subst c0
      have := deep_root h (i := 0) (by rw [h.root]; decide)
      obtain rfl : d = 0 := by omega
      rw [if_pos rfl]
      rfl
    · rw [if_neg c0, if_pos h0, if_pos h0, if_pos h1]
      show q0j.l0 k (par ns x) 0 ns q = _
      by_cases c : par ns x < 0
      · have hd0 := deep_root h c
        obtain rfl : d = 0 := by omega
        obtain ⟨k, rfl⟩ : ∃ z, k = z + 1 := ⟨k - 1, by omega⟩
        rw [q0j.l0, if_neg (by omega), if_neg (by omega)]
        have e1 : (par ns x == 0) = false := beq_eq_false_iff_ne.2 (by omega)
        rw [e1, show upN ns 0 x = x from rfl, decide_eq_false c0]
      · rcases h.up x h0 h1 with hr | ⟨p0, p1, hx⟩
        · omega
        have hu := deep_up h h0 h1 p0
        obtain ⟨d', rfl⟩ : ∃ d', d = d' + 1 := ⟨d - 1, by omega⟩
        exact under_l0 d' (par ns x) (by omega) p0 p1 k (by omega)
theorem under_eq {x : Int} (h0 : 0 ≤ x) (h1 : x < ns.length) (k : Nat) (hk : 50 < k) : q0j.f k ns q x 0 = some (decide (upN ns (q1s ns x) x = 0)) := by
  have hd := (h.deep x h0 h1).1
  exact under_l0 h q _ x rfl h0 h1 k (by omega)
end
end Go.Proofs.YthjnallbbhnndaaDoor.Dm
namespace Go.Proofs.YthjnallbbhnndaaDoor.Pure
open Go Go.RowKit Go.Proofs.YthjnallbbhnndaaDoor.XWk Go.Proofs.YthjnallbbhnndaaDoor.Dm Go.Proofs.YthjnallbbhnndaaDoorW.PrintWords Go.Proofs.YthjnallbbhnndaaDoorW.PrintLast Go.Proofs.YthjnallbbhnndaaDoorW.PrintMore
set_option maxRecDepth 100000
theorem begunW : q0m.f 2000 = some true := by decide +kernel
theorem begunK (k : Nat) (hk : 2000 ≤ k) : q0m.f k = some true := by
  have := more_rounds (g := fun k => q0m.f k) q0m.mono 2000 (k - 2000) _ begunW
  rw [show 2000 + (k - 2000) = k by omega] at this
  exact this
theorem step_at (X Y : List Int) : stepAt (X ++ Y) (X.length : Int) = hdI Y := by
  unfold stepAt
  cases Y with
  | nil => rw [if_pos (.inr (by simp))]; rfl
  | cons y Y => rw [if_neg (by simp only [List.length_append, List.length_cons]; omega), rd_mid]; rfl
theorem step_before (A Z : List Int) (h : 0 < Z.length) : stepAt (A ++ Z) ((A.length : Int) - 1) = lsI A := by
  rcases List.eq_nil_or_concat A with hA | ⟨A', a, hA⟩
  · subst hA
    unfold stepAt
    rw [if_pos (.inl (by simp))]
    rfl
  · rw [List.concat_eq_append] at hA
    subst hA
    rw [lsI_snoc, List.append_assoc, show (((A' ++ [a]).length : Int) - 1) = (A'.length : Int) by (simp only [List.length_append, List.length_cons, List.length_nil]; omega)]
    unfold stepAt
    rw [if_neg (by simp only [List.length_append, List.length_cons]; omega)]
    exact rd_mid A' Z a
section
variable {ns : List S43} (h : Tree ns) (q : Bool)
include h
theorem step_both {n how : Int} (h0 : 0 ≤ n) (h1 : n < ns.length) (hu : upN ns (q1s ns n) n = 0) (hh : 1 ≤ how ∧ how ≤ 8) (k : Nat) (hk : 9000 < k) :
    ∃ S, q0x.f k ns q n how = some (S, q) ∧ q0n.f k ns q n how = some S := by
  obtain ⟨k, rfl⟩ : ∃ z, k = z + 1 := ⟨k - 1, by omega⟩
  obtain ⟨A, B, hs, ho, hl⟩ := way h (q1s ns n) n rfl h0 h1 hu
  have hr0 : (0 : Int) < ns.length := by have := h.some_; omega
  have hm := h.many
  have hse := sub_eq h h0 h1
  have hnd := sub_nodup h (i := 0) (by decide) hr0
  have hlen := sub_few h (i := 0) (by decide) hr0
  have hnA : n ∉ A := fun hA => by
    rw [hs, hse] at hnd
    have := (List.nodup_append.1 (List.nodup_append.1 hnd).1).2.2 n hA n (by simp)
    exact this rfl
  have hL : sub ns 0 = A ++ n :: ((kidL ns n).flatMap (sub ns) ++ B) := by rw [hs, hse]; simp
  have hix : idxI (sub ns 0) n = (A.length : Int) := by
    rw [idxI_mem (by rw [hL]; simp), hL, idx_mid _ _ _ hnA]
  have hAl : A.length ≤ 200 := by rw [hL] at hlen; simp only [List.length_append, List.length_cons] at hlen; omega
  have hkl := kid_len h h0 h1
  -- the two sides, a way of stepping at a time
  have hbel := below_all h q 0 (by decide) hr0 (k + 1) (by omega)
  have hpl := place_eq (sub ns 0) n (by omega) (k + 1) (by omega)
  rw [hix] at hpl
  have hbn := below_all h q n h0 h1 (k + 1) (by omega)
  have ref : ∀ S, (∀ kk p ks, p = par ns n → (p < 0 → kk = 0 ∧ ks = []) → (¬ p < 0 → kk = (idx (kidL ns p) n : Int) ∧ ks = kidL ns p) → q2r (k + 1) ns q n how (sub ns 0) (A.length : Int) kk p ks = some S) → q0n.f (k + 1) ns q n how = some S := by
    intro S H
    unfold q0n.f
    rw [hbel, Option.bind_some, hpl, Option.bind_some, if_pos ⟨h0, h1, show (kidL ns n).length ≤ 4611686018427387904 by omega⟩]
    show (if par ns n < 0 then q2r (k + 1) ns q n how (sub ns 0) (A.length : Int) 0 (par ns n) [] else if par ns n < (ns.length : Int) then (q08.f (k + 1) (kidL ns (par ns n)) n).bind fun kk => q2r (k + 1) ns q n how (sub ns 0) (A.length : Int) kk (par ns n) (kidL ns (par ns n)) else none) = some S
    by_cases c : par ns n < 0
    · rw [if_pos c]
      exact H 0 _ [] rfl (fun _ => ⟨rfl, rfl⟩) (fun hc => absurd c hc)
    · rw [if_neg c]
      rcases h.up n h0 h1 with hr | ⟨p0, p1, hx⟩
      · omega
      have hlp := kid_len h p0 p1
      rw [if_pos p1, place_eq _ _ (by omega) (k + 1) (by omega), idxI_mem hx, Option.bind_some]
      exact H _ _ _ rfl (fun hc => absurd hc c) (fun _ => ⟨rfl, rfl⟩)
  have tail : ∀ kk p ks, q2r (k + 1) ns q n how (sub ns 0) (A.length : Int) kk p ks = if how = 1 then some (stepAt (sub ns 0) (wrap64 ((A.length : Int) + 1))) else if how = 2 then some (stepAt (sub ns 0) (wrap64 ((A.length : Int) - 1))) else if how = 3 then (q0c.f (k + 1) ns q n).map fun l2 => stepAt (sub ns 0) (wrap64 ((A.length : Int) + (l2.length : Int)))
      else if how = 4 then some (if ((kidL ns n).length : Int) = 0 then -1 else rd (kidL ns n) 0) else if how = 5 then some (if ((kidL ns n).length : Int) = 0 then -1 else rd (kidL ns n) (((kidL ns n).length : Int) - 1))
      else if how = 6 then some (stepB p ks (wrap64 (kk + 1))) else if how = 7 then some (stepB p ks (wrap64 (wrap64 (kk + 1) - 2))) else some p := fun _ _ _ => rfl
  unfold q0x.f
  by_cases e1 : how = 1
  · refine ⟨_, by rw [if_pos e1, next_eq h q h0 h1 (k + 1) (by omega), Option.bind_some], ref _ fun kk p ks _ _ _ => ?_⟩
    rw [tail, if_pos e1, w1 _ (by omega)]
    congr 1
    have e : sub ns 0 = (A ++ [n]) ++ ((kidL ns n).flatMap (sub ns) ++ B) := by rw [hL]; simp
    rw [e, show (((A.length + 1 : Nat) : Nat) : Int) = ((A ++ [n]).length : Int) by simp, step_at]
    show hdI _ = if kidL ns n = [] then overI ns (q1s ns n + 1) n else hdI (kidL ns n)
    cases hk : kidL ns n with
    | nil => rw [if_pos rfl, ho]; rfl
    | cons c t =>
      obtain ⟨c0, c1, _⟩ := h.kid n c h0 h1 (by rw [hk]; simp)
      rw [if_neg (by simp), List.flatMap_cons, sub_eq h c0 c1]
      rfl
  rw [if_neg e1]
  by_cases e2 : how = 2
  · refine ⟨_, by rw [if_pos e2, last_eq h q h0 h1 (k + 1) (by omega), Option.bind_some], ref _ fun kk p ks _ _ _ => ?_⟩
    rw [tail, if_neg e1, if_pos e2, wm _ (by omega), hL, step_before _ _ (by simp)]
    show some (lsI A) = some (lastI ns n)
    rw [hl]
  rw [if_neg e2]
  by_cases e3 : how = 3
  · refine ⟨_, by rw [if_pos e3, over_eq h q h0 h1 (k + 1) (by omega), Option.bind_some], ref _ fun kk p ks _ _ _ => ?_⟩
    have hln := sub_few h h0 h1
    rw [tail, if_neg e1, if_neg e2, if_pos e3, hbn, Option.map_some]
    congr 1
    rw [show wrap64 ((A.length : Int) + ((sub ns n).length : Int)) = ((A ++ sub ns n).length : Int) by rw [List.length_append]; unfold wrap64; omega, hs, step_at]
    exact ho.symm
  rw [if_neg e3]
  by_cases e4 : how = 4
  · have hk4 := kid_first (ns := ns) q h0 h1
    refine ⟨hdI (kidL ns n), ?_, ref _ fun kk p ks _ _ _ => ?_⟩
    · rw [if_pos e4, q0x.j0, if_pos (by rw [e4]; rfl), show (how == 5) = false by rw [e4]; rfl, hk4, Option.bind_some]
    · rw [tail, if_neg e1, if_neg e2, if_neg e3, if_pos e4]
      cases kidL ns n with
      | nil => rfl
      | cons c t => rw [if_neg (by simp only [List.length_cons]; omega)]; rfl
  rw [if_neg e4]
  by_cases e5 : how = 5
  · have hk5 := kid_last h q h0 h1
    refine ⟨if (kidL ns n).length = 0 then -1 else rd (kidL ns n) ((kidL ns n).length - 1 : Int), ?_, ref _ fun kk p ks _ _ _ => ?_⟩
    · rw [q0x.j0, if_pos (by rw [e5]; rfl), show (how == 5) = true by rw [e5]; rfl, hk5, Option.bind_some]
    · rw [tail, if_neg e1, if_neg e2, if_neg e3, if_neg e4, if_pos e5]
      by_cases c : (kidL ns n).length = 0
      · rw [if_pos (by omega), if_pos c]
      · rw [if_neg (by omega), if_neg c]
  have e5b : (how == 5) = false := beq_eq_false_iff_ne.2 e5
  rw [e5b, q0x.j0, if_neg Bool.false_ne_true]
  have sib : ∀ b : Int, b = 1 ∨ b = -1 → ∀ kk p ks, p = par ns n → (p < 0 → kk = 0 ∧ ks = []) → (¬ p < 0 → kk = (idx (kidL ns p) n : Int) ∧ ks = kidL ns p) → stepB p ks (kk + b) = q1z ns n b := by
    rintro b hb kk p ks rfl hn hp
    unfold stepB q1z
    by_cases c : par ns n < 0
    · rw [if_pos c, if_pos (.inl c)]
    · obtain ⟨rfl, rfl⟩ := hp c
      rw [if_neg c]
      by_cases c1 : (idx (kidL ns (par ns n)) n : Int) + b < 0 ∨ (idx (kidL ns (par ns n)) n : Int) + b ≥ ((kidL ns (par ns n)).length : Int)
      · rw [if_pos c1, if_pos (.inr c1)]
      · rw [if_neg c1, if_neg (by omega)]
  have kkle : ∀ kk p ks, p = par ns n → (p < 0 → kk = 0 ∧ ks = ([] : List Int)) → (¬ p < 0 → kk = (idx (kidL ns p) n : Int) ∧ ks = kidL ns p) → 0 ≤ kk ∧ kk ≤ 200 := by
    rintro kk p ks rfl hn hp
    by_cases c : par ns n < 0
    · rw [(hn c).1]; decide
    · rcases h.up n h0 h1 with hr | ⟨p0, p1, hx⟩
      · omega
      have := kid_len h p0 p1
      have := idx_lt hx
      rw [(hp c).1]
      omega
  by_cases e6 : how = 6
  · refine ⟨_, by rw [if_pos e6, beside_eq h q h0 h1 (.inl rfl) k (by omega), Option.bind_some], ref _ fun kk p ks a1 a2 a3 => ?_⟩
    have hkk := kkle kk p ks a1 a2 a3
    rw [tail, if_neg e1, if_neg e2, if_neg e3, if_neg e4, if_neg e5, if_pos e6, show wrap64 (kk + 1) = kk + 1 by unfold wrap64; omega, sib 1 (.inl rfl) kk p ks a1 a2 a3]
  rw [if_neg e6]
  by_cases e7 : how = 7
  · refine ⟨_, by rw [if_pos e7, beside_eq h q h0 h1 (.inr rfl) k (by omega), Option.bind_some], ref _ fun kk p ks a1 a2 a3 => ?_⟩
    have hkk := kkle kk p ks a1 a2 a3
    rw [tail, if_neg e1, if_neg e2, if_neg e3, if_neg e4, if_neg e5, if_neg e6, if_pos e7, show wrap64 (wrap64 (kk + 1) - 2) = kk + -1 by unfold wrap64; omega, sib (-1) (.inr rfl) kk p ks a1 a2 a3]
  rw [if_neg e7]
  refine ⟨par ns n, by rw [if_pos h0, if_pos h1]; rfl, ref _ fun kk p ks a1 a2 a3 => ?_⟩
  rw [tail, if_neg e1, if_neg e2, if_neg e3, if_neg e4, if_neg e5, if_neg e6, if_neg e7, a1]
theorem walkErr_one {n : Int} (k : Nat) (hd : q03.f k ns q = some 0) (hk : 100 < k) :
    q06.f k ns q [n] = some (if 0 ≤ n ∧ n < ns.length then (if upN ns (q1s ns n) n = 0 then 0 else 5) else 1) := by
  obtain ⟨k, rfl⟩ : ∃ z, k = z + 8 := ⟨k - 8, by omega⟩
  have hm := h.many
  unfold q06.f
  rw [hd, Option.bind_some]
  have l1end : ∀ (k : Nat) (e : Int), q06.l1 (k + 2) [n] e 1 ns q = some e := by
    intro k e
    rw [q06.l1, if_neg (by simp), q06.j3, if_neg Bool.false_ne_true]
  have l1ne : ∀ (k : Nat) (e : Int), e ≠ 0 → q06.l1 (k + 2) [n] e 0 ns q = some e := by
    intro k e he
    rw [q06.l1, if_pos (by simp), show (e == 0) = false from beq_eq_false_iff_ne.2 he, q06.j3, if_neg Bool.false_ne_true]
  have l0end : ∀ (k : Nat) (e : Int), q06.l0 (k + 2) [n] e 1 ns q = q06.l1 k [n] e 0 ns q := by
    intro k e
    rw [q06.l0, if_neg (by simp), q06.j1, if_neg Bool.false_ne_true]
  rw [q06.l0, if_pos (by simp), show ((0 : Int) == 0) = true from rfl, q06.j1, if_pos rfl, if_pos (by simp), if_pos (by simp), show rd [n] 0 = n from rfl, wm _ (by omega), show wrap64 (0 + 1) = 1 by (unfold wrap64; omega)]
  unfold q0p.f
  by_cases c0 : n ≥ 0
  · rw [if_pos c0, Option.bind_some]
    by_cases c1 : n < (ns.length : Int)
    · rw [if_pos (decide_eq_true (by omega)), l0end, if_pos ⟨c0, c1⟩, q06.l1, if_pos (by simp), show ((0 : Int) == 0) = true from rfl, q06.j3, if_pos rfl, if_pos (by simp), if_pos (by simp), show rd [n] 0 = n from rfl, under_eq h q c0 c1 _ (by omega), Option.bind_some, show wrap64 (0 + 1) = 1 by (unfold wrap64; omega)]
      by_cases c2 : upN ns (q1s ns n) n = 0
      · rw [if_pos (decide_eq_true c2), if_pos c2]
        exact l1end _ 0
      · rw [if_neg (by rw [decide_eq_false c2]; exact Bool.false_ne_true), if_neg c2]
        exact l1end _ 5
    · rw [if_neg (by rw [decide_eq_false (by omega)]; exact Bool.false_ne_true), l0end, if_neg (fun hc => c1 hc.2)]
      exact l1ne _ 1 (by decide)
  · rw [if_neg c0, Option.bind_some, if_neg Bool.false_ne_true, l0end, if_neg (fun hc => c0 hc.1)]
    exact l1ne _ 1 (by decide)
end
theorem mx_max (a : Int) : mx a 0 = max a 0 := by unfold mx; split <;> omega
theorem WalkSteps : q07.Pure := by
  intro l0 q n how hl _ _ _
  obtain ⟨ns, hns⟩ : ∃ ns, l0.take (mn (l0.length : Int) 60).toNat = ns := ⟨_, rfl⟩
  have hmn : 0 ≤ mn (l0.length : Int) 60 ∧ mn (l0.length : Int) 60 ≤ (l0.length : Int) ∧ mn (l0.length : Int) 60 ≤ 60 := by unfold mn; split <;> omega
  have hfew : q1o.f l0 q 60 = some (ns, q) := by
    unfold q1o.f
    rw [if_pos hmn.1, if_pos hmn.2.1, hns]
  have hn60 : ns.length ≤ 60 := by rw [← hns, List.length_take]; omega
  have hok : ∀ a ∈ ns, ok43 a := fun a ha => hl.2.2 a (by rw [← hns] at ha; exact List.mem_of_mem_take ha)
  have hz : smallA (z43).f2 ∧ (z43).f1.size ≤ 140737488355328 ∧ (z43).f5.length ≤ 17592186044416 := ⟨fun x hx => by simp [z43] at hx, by decide, by decide⟩
  have hall : ∀ i : Int, smallA (q05 ns i).f2 ∧ (q05 ns i).f1.size ≤ 140737488355328 ∧ (q05 ns i).f5.length ≤ 17592186044416 := by
    intro i
    unfold q05
    by_cases c : i.toNat < ns.length
    · have e : ns.getD i.toNat z43 = ns[i.toNat] := by simp [List.getD, c]
      rw [e]
      obtain ⟨_, h1, h2, _, _, h5⟩ := hok _ (List.getElem_mem c)
      unfold reachBytes at h1 h2 h5
      refine ⟨fun x hx => ?_, by omega, by have := h5.1; omega⟩
      have := (h2.2.2 x hx).1
      unfold reachBytes at this
      omega
    · have e : ns.getD i.toNat z43 = z43 := by simp [List.getD, c]
      rw [e]
      exact hz
  have hS : SmallN ns := fun i => ⟨(hall i).1, (hall i).2.1⟩
  have hK : KidsLe ns 17592186044416 := fun i => (hall i).2.2
  refine ⟨2 * ns.length + rounds ns 17592186044416 + 100001, ?_⟩
  obtain ⟨K, hKe⟩ : ∃ K, 2 * ns.length + rounds ns 17592186044416 + 100001 = K := ⟨_, rfl⟩
  rw [hKe]
  have hKb : 100000 < K := by omega
  have hc := check_eq ns q hS 17592186044416 (by decide) hK K (by omega)
  have hd := docErr_eq ns q 17592186044416 (by decide) hK K (by omega)
  have hd2 := fun k (hk : 2 * ns.length + rounds ns 17592186044416 < k) => docErr_eq ns q 17592186044416 (by decide) hK k hk
  obtain ⟨D, hD⟩ : ∃ D, docE ns = D := ⟨_, rfl⟩
  rw [hD] at hc hd
  have hd3 : ∀ k, 2 * ns.length + rounds ns 17592186044416 < k → q03.f k ns q = some D := fun k hk => by rw [hd2 k hk, hD]
  have chk : ∀ ll, q0g.f K ns q ll = if D = 0 then (if q0g.outR ns ll = true then some 1 else q0g.offR K ns q ll) else some D := by
    intro ll
    unfold q0g.f
    rw [hc, Option.bind_some]
  unfold q07.f
  rw [hfew, Option.bind_some]
  show ((q1k.f K ns q n how).bind fun bt295 => (q03.f K ns q).bind fun t298 => (if t298 = 0 then (if how < 1 then (q07.j0 K n how bt295.1 bt295.2.1 bt295.2.2 t298 (-1) true ns q) else (q07.j0 K n how bt295.1 bt295.2.1 bt295.2.2 t298 (-1) (decide (how > 8)) ns q)) else (q07.j0 K n how bt295.1 bt295.2.1 bt295.2.2 t298 (-1) false ns q))) = some true
  -- an error that both tell
  have fin : ∀ (k : Nat) (e : Int), e ≠ 0 → 3000 < k → q07.j2 k n how 0 false e e (-1) ns q = some true := by
    intro k e he hk
    obtain ⟨k, rfl⟩ : ∃ z, k = z + 1 := ⟨k - 1, by omega⟩
    rw [q07.j2, if_neg he, begunK k (by omega), Option.bind_some, if_pos rfl, if_pos (by decide), if_pos (by decide)]
    simp
  obtain ⟨K', hK'⟩ : ∃ K', K = K' + 2 := ⟨K - 2, by omega⟩
  unfold q1k.f
  rw [chk]
  by_cases cD : D = 0
  · rw [if_pos cD, if_neg (show ¬ q0g.outR ns [] = true by simp [q0g.outR]), show q0g.offR K ns q [] = some 0 from rfl, Option.bind_some, if_pos rfl]
    have ht : Tree ns := tree_of (hD.trans cD)
    by_cases ch : how < 1 ∨ how > 8
    · rw [if_pos ch, Option.bind_some, hd, Option.bind_some, if_pos cD]
      have hj : q07.j0 K n how 0 false 1 D (-1) true ns q = some true := by
        rw [hK', q07.j0, if_pos rfl, q07.j1, if_neg (by decide)]
        exact fin K' 1 (by decide) (by omega)
      by_cases c1 : how < 1
      · rw [if_pos c1]; exact hj
      · rw [if_neg c1, decide_eq_true (show how > 8 by omega)]; exact hj
    · rw [if_neg ch]
      -- the law's way, once the step is known
      have law : ∀ (x7 : Int) (x8 : Bool) (x9 : Int), (∀ E, q06.f K' ns q [n] = some E → q07.j2 K' n how x7 x8 x9 E (-1) ns q = some true) → (if D = 0 then (if how < 1 then (q07.j0 K n how x7 x8 x9 D (-1) true ns q) else (q07.j0 K n how x7 x8 x9 D (-1) (decide (how > 8)) ns q)) else (q07.j0 K n how x7 x8 x9 D (-1) false ns q)) = some true := by
        intro x7 x8 x9 H
        rw [if_pos cD, if_neg (by omega), decide_eq_false (show ¬ how > 8 by omega), hK', q07.j0, if_neg Bool.false_ne_true, q07.j1, if_pos cD]
        have hw := walkErr_one (ns := ns) ht q (n := n) K' (by rw [hd3 K' (by omega), cD]) (by omega)
        rw [hw, Option.bind_some]
        exact H _ hw
      have hw := walkErr_one (ns := ns) ht q (n := n) K' (by rw [hd3 K' (by omega), cD]) (by omega)
      rw [chk, if_pos cD]
      by_cases cn : 0 ≤ n ∧ n < (ns.length : Int)
      · have ho : q0g.outR ns [n] = false := by
          simp only [q0g.outR, Bool.or_false, Bool.or_eq_false_iff, decide_eq_false_iff_not]
          omega
        rw [if_neg (by rw [ho]; exact Bool.false_ne_true), off_one ht q cn.1 cn.2 K (by omega)]
        rw [if_pos cn] at hw
        by_cases cu : upN ns (q1s ns n) n = 0
        · rw [if_pos cu] at hw ⊢
          obtain ⟨S, s1, s2⟩ := step_both ht q cn.1 cn.2 cu (how := how) (by omega) K (by omega)
          obtain ⟨S', s1', s2'⟩ := step_both ht q cn.1 cn.2 cu (how := how) (by omega) (K' - 1) (by omega)
          have hSS : S' = S := by
            have := more_rounds (g := fun k => q0n.f k ns q n how) (fun k => q0n.mono ns q n how k) (K' - 1) (K - (K' - 1)) _ s2'
            rw [show K' - 1 + (K - (K' - 1)) = K by omega] at this
            exact Option.some.inj (this.symm.trans s2)
          rw [Option.bind_some, if_pos rfl, s1, Option.bind_some, Option.bind_some, hd, Option.bind_some]
          refine law _ _ _ fun E hE => ?_
          obtain rfl : E = 0 := Option.some.inj (hE.symm.trans hw)
          obtain ⟨k, hk⟩ : ∃ z, K' = z + 1 := ⟨K' - 1, by omega⟩
          rw [hk] at s2' ⊢
          rw [Nat.add_sub_cancel] at s2'
          rw [q07.j2, if_pos rfl, s2', Option.bind_some, begunK k (by omega), Option.bind_some, if_pos rfl, hSS, mx_max, if_pos rfl]
          simp
        · rw [if_neg cu] at hw ⊢
          rw [Option.bind_some, if_neg (by decide), Option.bind_some, hd, Option.bind_some]
          refine law _ _ _ fun E hE => ?_
          obtain rfl : E = 5 := Option.some.inj (hE.symm.trans hw)
          exact fin K' 5 (by decide) (by omega)
      · have ho : q0g.outR ns [n] = true := by
          simp only [q0g.outR, Bool.or_false, Bool.or_eq_true, decide_eq_true_eq]
          omega
        rw [if_neg cn] at hw
        rw [if_pos ho, Option.bind_some, if_neg (by decide), Option.bind_some, hd, Option.bind_some]
        refine law _ _ _ fun E hE => ?_
        obtain rfl : E = 1 := Option.some.inj (hE.symm.trans hw)
        exact fin K' 1 (by decide) (by omega)
  · rw [if_neg cD, Option.bind_some, if_neg cD, Option.bind_some, hd, Option.bind_some, if_neg cD, hK', q07.j0, if_neg Bool.false_ne_true, q07.j1, if_neg cD]
    exact fin K' D cD (by omega)
end Go.Proofs.YthjnallbbhnndaaDoor.Pure
namespace Go.Proofs.YthjnallbbhnndaaDoor
open Go Go.Shelf Go.ChangeShapes Go.WideShapes Go.ChangeAt Go.RowKit Go.Lib
def lay2 : List (String × DataW Unit) := [("unicode/utf8.acceptRanges", Rows.laid_unicode_utf8_acceptRanges), ("unicode/utf8.first", Rows.laid_unicode_utf8_first)]
noncomputable def laidWorld (os : Os) : World :=
  let w0 := World.holding Tryd.prog os ⟨#[], #[], []⟩
  let put (h : Array Obj) (g : Nat) (cs : Array Value) : Array Obj := h.modify g fun
    | .cells _ t frozen => .cells cs t frozen
    | o => o
  let h1 := put w0.heap 1 (Lib.firstTab.map fun z => Value.int .u8 z).toArray
  let h2 := put h1 2 ((List.range 16).flatMap fun i => [Value.int .u8 (Lib.accLo i), Value.int .u8 (Lib.accHi i)]).toArray
  { w0 with heap := h2 }
theorem laid_met (os : Os) (args : Array Value) : laidMet Tryd.prog lay2 ((laidWorld os).forCall (fun _ _ => 0) ⟨#[], args, []⟩).memory :=
  (LaidIn.of_run (l := lay2) [2, 1] 8 (by kernel_rfl) (by kernel_rfl) (by kernel_rfl) (by kernel_rfl)).met
theorem own_ : ownKnob Tryd.prog.godebug = none := by kernel_rfl
theorem laidOut_ : laidOutB Tryd.prog = true := by kernel_rfl
end Go.Proofs.YthjnallbbhnndaaDoor
