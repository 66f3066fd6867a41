/- Written by this session's program (wip/xp) out of the translation as Lean prints it: for each Go function a Lean function and the proof that the code answers just so, on the conditions named in each statement. -/
import Derived.Test.YthjnallbbhnndaaDoorG5
import Derived.Test.YthjnallbbhnndaaDoorRows
import Derived.Test.YthjnallbbhnndaaDoorChecked
import Derived.Lib.LaidIn
import Derived.Lib.LaidU8T
import Derived.Deep.DeepHandedRow
import Derived.Deep.DeepWitnessRowRef
namespace Go.Proofs.YthjnallbbhnndaaDoor.XDe
open Go.Proofs.YthjnallbbhnndaaDoor.Short Go.RowKit Go.Proofs.YthjnallbbhnndaaDoorW.PrintWords Go.Proofs.YthjnallbbhnndaaDoorW.PrintLast Go.Proofs.YthjnallbbhnndaaDoorW.PrintMore
attribute [local go_sem] q15 q13 q1g q1f q0t q0s q14 q12   -- for this text's walks alone
set_option linter.unusedVariables false
set_option linter.unusedSimpArgs false
def clerestorylaw1_DomEdits.f (k : Nat) (l0 : List S43) (q : Bool) (e0 e1 e2 e3 : Int) (e4 e5 : ByteArray) (e6 : Int) (e7 : ByteArray) (l8 : List S122) (e9 : ByteArray) (e10 : Int) (l11 : List Int) : Option Bool :=
  (clerestorylaw1_few.f l0 q 210).bind fun p => (dom_Apply.f k p.1 p.2 e0 e1 e2 e3 e4 e5 e6 e7 l8 e9 e10 l11).bind fun a => (clerestoryref1_DocErr.f k p.1 p.2).bind fun t => (clerestorylaw1_domBegun.f k).bind fun g => if g = true then
    (if t = 0 then (clerestoryref1_Edited.f k p.1 p.2 e0 e1 e2 e3 e4 e5 e6 e7 l8 e9 e10 l11).bind fun b => (clerestoryref1_SameDoc.f k a.1 a.2.1 b.1 b.2.1).bind fun s => if s = true ∧ a.2.2.1 = b.2.2.1 ∧ a.2.2.2 = b.2.2.2 then some true else none
     else (clerestoryref1_SameDoc.f k a.1 a.2.1 [] false).bind fun s => if s = true ∧ a.2.2.2 = t ∧ a.2.2.1 = 0 then some true else none) else none
set_option maxHeartbeats 16000000 in
set_option maxRecDepth 100000 in
theorem clerestorylaw1_DomEdits.calls (k : Nat) (A0 : Option Addr) (c0 : Nat) (l0 : List S43) (q : Bool) (e0 e1 e2 e3 : Int) (e4 e5 : ByteArray) (e6 : Int) (e7 : ByteArray) (A8 : Option Addr) (c8 : Nat) (l8 : List S122) (e9 : ByteArray) (e10 : Int) (A11 : Option Addr) (c11 : Nat) (l11 : List Int) (r : Bool) (w : World) (hr0 : Kd.C k43 w A0 l0.length l0) (hc0 : l0.length ≤ c0) (hC8 : Kd.C k122 w A8 l8.length l8) (hL8 : l8.length ≤ c8) (hC11 : Kd.C (Kd.int .i64) w A11 l11.length l11) (hL11 : l11.length ≤ c11) (h : clerestorylaw1_DomEdits.f k l0 q e0 e1 e2 e3 e4 e5 e6 e7 l8 e9 e10 l11 = some r) :
    Calls Tryd.prog 11 #[.agg #[.slice A0 l0.length c0, .bool q], .agg #[.int .i64 e0, .int .i64 e1, .int .i64 e2, .int .i64 e3, .string e4, .string e5, .int .i64 e6, .string e7, .slice A8 l8.length c8, .string e9, .int .i64 e10, .slice A11 l11.length c11]] w fun e w' => e = .returned (.bool r) ∧ Below w.heap.size w w' := by
  have hu24 := Tryd.underlying24
  have hu87 := Tryd.underlying87
  have HC := Aside0.mk hr0
  have HL := Aside0.mk hc0
  have HC8 := Aside0.mk hC8
  have HL8 := Aside0.mk hL8
  have HC11 := Aside0.mk hC11
  have HL11 := Aside0.mk hL11
  clear hr0 hc0 hC8 hL8 hC11 hL11
  unfold clerestorylaw1_DomEdits.f at h
  obtain ⟨⟨p1, p2⟩, hf, h⟩ := Option.bind_eq_some_iff.1 h
  have HF := Aside0.mk hf
  obtain ⟨⟨a1, a2, a3, a4⟩, ha, h⟩ := Option.bind_eq_some_iff.1 h
  have HA : Aside0 (dom_Apply.f k p1 p2 e0 e1 e2 e3 e4 e5 e6 e7 l8 e9 e10 l11 = some (a1, a2, a3, a4)) := ⟨ha⟩
  obtain ⟨t, ht, h⟩ := Option.bind_eq_some_iff.1 h
  have HT : Aside0 (clerestoryref1_DocErr.f k p1 p2 = some t) := ⟨ht⟩
  obtain ⟨g, hg, h⟩ := Option.bind_eq_some_iff.1 h
  clear hf ha ht
  refine iGp h ?_
  clear h
  intro hgt h
  have HG : Aside0 (clerestorylaw1_domBegun.f k = some true) := ⟨by rw [← hgt]; exact hg⟩
  clear hg hgt
  go_enter Tryd.func11, Tryd.ntmps11
  go_upto_region 1 with (first | ((with_reducible refine q06 (N := 2) rfl ?_); refine box1 rfl (N := 2) rfl (cs := #[.slice A0 l0.length c0, .bool q]) (t := 24) zi ?_; intro gd wd DK GD DS) | ((with_reducible refine q06 (N := 3) rfl ?_); refine box1 rfl (N := 3) rfl (cs := #[.int .i64 e0, .int .i64 e1, .int .i64 e2, .int .i64 e3, .string e4, .string e5, .int .i64 e6, .string e7, .slice A8 l8.length c8, .string e9, .int .i64 e10, .slice A11 l11.length c11]) (t := 87) zi ?_; intro ge we EK GE ES))
  have HB := Aside0.mk (q01 DS.out ES.out)
  have GD2 := Aside0.mk (show w.heap.size ≤ gd from GD.out)
  have n_DK := Aside0.mk (q02 DK.out ES.out)
  clear DK DS ES GD GE
  have DK := n_DK
  clear n_DK
  obtain ⟨hd0, hd1, hdf0, hdf1⟩ := bk2 DK.out
  obtain ⟨ha0, ha1, ha2, ha3, ha4, ha5, ha6, ha7, ha8, ha9, ha10, ha11⟩ := bk12 EK.out
  go_upto_region 2 with (go_at_call 15; ((with_reducible refine (clerestorylaw1_few.calls (fun k_ => k_ < w.heap.size) _ _ l0 q 210 p1 p2 _ ?side1 HF.out).mono ?_); (case side1 => exact Kd.V_mk HL.out (Kd.F_below (Kd.C_F k43_heap HC.out) HB.out)); rintro e w7 ⟨v1, rfl, hv, hbl⟩; obtain ⟨A1, c1, e_⟩ := Kd.V_slice hv; subst e_; have HV := Aside0.mk hv; have HS := Aside0.mk hbl; have HX := Aside0.mk (q0a DK.out); have n_DK := Aside0.mk (q02 DK.out hbl); have n_EK := Aside0.mk (q02 EK.out hbl); have n_HB := Aside0.mk (q01 HB.out hbl); clear hv hbl DK EK HB; clear hd0 hd1 hdf0 hdf1 ha0 ha1 ha2 ha3 ha4 ha5 ha6 ha7 ha8 ha9 ha10 ha11; have DK := n_DK; have EK := n_EK; have HB := n_HB; clear n_DK n_EK n_HB; obtain ⟨hd0, hd1, hdf0, hdf1⟩ := bk2 DK.out; obtain ⟨ha0, ha1, ha2, ha3, ha4, ha5, ha6, ha7, ha8, ha9, ha10, ha11⟩ := bk12 EK.out))
  have hne : ∀ k_, (k_ < w.heap.size ∨ we.heap.size ≤ k_) → k_ ≠ gd := fun k_ hk e_ => by have h1_ := GD2.out; have h2_ := HX.out; rcases hk with h3_ | h3_ <;> omega
  have n_V := Kd.V_reads' (Kd.V_step (Kd.V_step HV.out (w1 := w7.setCell ⟨gd, 0, none⟩ (.slice A1 p1.length c1)) (fun k_ hk _ => Below.heap_setCell w7 _ _ k_ (hne k_ hk))) (w1 := (w7.setCell ⟨gd, 0, none⟩ (.slice A1 p1.length c1)).setCell ⟨gd, 1, none⟩ (.bool p2)) (fun k_ hk _ => Below.heap_setCell _ _ _ k_ (hne k_ hk)))
  have HC1 := Aside0.mk n_V.2.2
  have HL1 := Aside0.mk n_V.2.1
  have n_DK := Aside0.mk ((q0l (q0l DK.out 0 (.slice A1 p1.length c1)) 1 (.bool p2)).trans (show _ = some (Obj.cells #[.slice A1 p1.length c1, .bool p2] 24 (0, 0)) from rfl))
  have hed : ge ≠ gd := fun e_ => by have h1_ := DK.out; rw [← e_, EK.out] at h1_; simp at h1_
  have n_EK := Aside0.mk ((Below.heap_setCell _ ⟨gd, 1, none⟩ (.bool p2) ge hed).trans ((Below.heap_setCell w7 ⟨gd, 0, none⟩ (.slice A1 p1.length c1) ge hed).trans EK.out))
  have n_HB := Aside0.mk (q0c (j := 1) (v := .bool p2) (q0c (j := 0) (v := .slice A1 p1.length c1) HB.out GD2.out) GD2.out)
  have n_C8 := Aside0.mk (Kd.C_below HC8.out n_HB.out)
  have n_C11 := Aside0.mk (Kd.C_below HC11.out n_HB.out)
  clear hd0 hd1 hdf0 hdf1 ha0 ha1 ha2 ha3 ha4 ha5 ha6 ha7 ha8 ha9 ha10 ha11
  clear n_V hne hed HV HS HX DK EK HB HC HL HC8 HC11 HF
  generalize (w7.setCell ⟨gd, 0, none⟩ (.slice A1 p1.length c1)).setCell ⟨gd, 1, none⟩ (.bool p2) = wa at HC1 n_DK n_EK n_HB n_C8 n_C11 ⊢
  have DK := n_DK
  have EK := n_EK
  have HB := n_HB
  have HC8 := n_C8
  have HC11 := n_C11
  clear n_DK n_EK n_HB n_C8 n_C11
  obtain ⟨hd0, hd1, hdf0, hdf1⟩ := bk2 DK.out
  obtain ⟨ha0, ha1, ha2, ha3, ha4, ha5, ha6, ha7, ha8, ha9, ha10, ha11⟩ := bk12 EK.out
  go_upto_region 3 with (first | (go_at_call 55; (with_reducible refine (dom_Apply.calls k A1 c1 p1 p2 e0 e1 e2 e3 e4 e5 e6 e7 A8 c8 l8 e9 e10 A11 c11 l11 _ _ _ _ _ HC1.out HL1.out HC8.out HL8.out HC11.out HL11.out HA.out).mono ?_); rintro e w8 ⟨va, rfl, hs, hbl⟩; obtain ⟨Aa, ca, e_⟩ := Kd.R_slice (Kd.S_R hs); subst e_; have n_R := Aside0.mk (Kd.S_reads' hs).2.2; have n_L := Aside0.mk (Kd.S_reads' hs).2.1; clear hs; have n_HB := Aside0.mk (q01 HB.out hbl); have n_DK := Aside0.mk (q02 DK.out hbl); have n_EK := Aside0.mk (q02 EK.out hbl); have n_HC1 := Aside0.mk (Kd.C_below HC1.out hbl); have n_HC8 := Aside0.mk (Kd.C_below HC8.out hbl); have n_HC11 := Aside0.mk (Kd.C_below HC11.out hbl); clear hbl HB DK EK HC1 HC8 HC11; have HB := n_HB; have DK := n_DK; have EK := n_EK; have HC1 := n_HC1; have HC8 := n_HC8; have HC11 := n_HC11; clear n_HB n_DK n_EK n_HC1 n_HC8 n_HC11; clear hd0 hd1 hdf0 hdf1 ha0 ha1 ha2 ha3 ha4 ha5 ha6 ha7 ha8 ha9 ha10 ha11; obtain ⟨hd0, hd1, hdf0, hdf1⟩ := bk2 DK.out; obtain ⟨ha0, ha1, ha2, ha3, ha4, ha5, ha6, ha7, ha8, ha9, ha10, ha11⟩ := bk12 EK.out) | ((with_reducible refine q06 (N := 5) rfl ?_); refine box1 rfl (N := 5) rfl (cs := #[.slice none 0 0, .bool false]) (t := 24) zi ?_; intro g5 wg GK GG GS; have GK1 := bk2 GK.out; obtain ⟨hg0, hg1, hgf0, hgf1⟩ := GK1))
  clear hd0 hd1 hdf0 hdf1 ha0 ha1 ha2 ha3 ha4 ha5 ha6 ha7 ha8 ha9 ha10 ha11
  have hbl := q0c (j := 1) (v := .bool a2) (q0c (j := 0) (v := .slice Aa a1.length ca) GS.out GG.out) GG.out
  have n_DK := Aside0.mk (q02 DK.out hbl)
  have n_EK := Aside0.mk (q02 EK.out hbl)
  have n_HC1 := Aside0.mk (Kd.C_below HC1.out hbl)
  have n_HC8 := Aside0.mk (Kd.C_below HC8.out hbl)
  have n_HC11 := Aside0.mk (Kd.C_below HC11.out hbl)
  have n_n_R := Aside0.mk (Kd.C_below n_R.out hbl)
  have n_G := Aside0.mk ((q0l (q0l GK.out 0 (.slice Aa a1.length ca)) 1 (.bool a2)).trans (show _ = some (Obj.cells #[.slice Aa a1.length ca, .bool a2] 24 (0, 0)) from rfl))
  have n_HB := Aside0.mk (q01 HB.out hbl)
  clear hbl hg0 hg1 hgf0 hgf1 GK GG GS HB n_R DK EK HC1 HC8 HC11
  generalize (wg.setCell ⟨g5, 0, none⟩ (.slice Aa a1.length ca)).setCell ⟨g5, 1, none⟩ (.bool a2) = wb at n_HB n_G n_n_R n_DK n_EK n_HC1 n_HC8 n_HC11 ⊢
  have HB := n_HB
  have HCa := n_n_R
  have HLa := n_L
  have Gg5 := n_G
  have DK := n_DK
  have EK := n_EK
  have HC1 := n_HC1
  have HC8 := n_HC8
  have HC11 := n_HC11
  clear n_HB n_n_R n_L n_G n_DK n_EK n_HC1 n_HC8 n_HC11
  obtain ⟨hd0, hd1, hdf0, hdf1⟩ := bk2 DK.out
  obtain ⟨ha0, ha1, ha2, ha3, ha4, ha5, ha6, ha7, ha8, ha9, ha10, ha11⟩ := bk12 EK.out
  obtain ⟨hm0, hm1, -, -⟩ := bk2 Gg5.out
  go_upto_region 4 with (go_at_call 17; (with_reducible refine (clerestoryref1_DocErr.calls k A1 c1 p1 p2 t _ HC1.out HL1.out HT.out).mono ?_); rintro e w9 ⟨rfl, hbl⟩; clear hd0 hd1 hdf0 hdf1 ha0 ha1 ha2 ha3 ha4 ha5 ha6 ha7 ha8 ha9 ha10 ha11; clear hm0 hm1; have n_HB := Aside0.mk (q01 HB.out hbl); have n_DK := Aside0.mk (q02 DK.out hbl); have n_EK := Aside0.mk (q02 EK.out hbl); have n_Gg5 := Aside0.mk (q02 Gg5.out hbl); have n_HC1 := Aside0.mk (Kd.C_below HC1.out hbl); have n_HC8 := Aside0.mk (Kd.C_below HC8.out hbl); have n_HC11 := Aside0.mk (Kd.C_below HC11.out hbl); have n_HCa := Aside0.mk (Kd.C_below HCa.out hbl); clear hbl HB DK EK Gg5 HC1 HC8 HC11 HCa; have HB := n_HB; have DK := n_DK; have EK := n_EK; have Gg5 := n_Gg5; have HC1 := n_HC1; have HC8 := n_HC8; have HC11 := n_HC11; have HCa := n_HCa; clear n_HB n_DK n_EK n_Gg5 n_HC1 n_HC8 n_HC11 n_HCa; obtain ⟨hd0, hd1, hdf0, hdf1⟩ := bk2 DK.out; obtain ⟨ha0, ha1, ha2, ha3, ha4, ha5, ha6, ha7, ha8, ha9, ha10, ha11⟩ := bk12 EK.out; obtain ⟨hm0, hm1, -, -⟩ := bk2 Gg5.out)
  by_cases z : t = 0
  · rw [if_pos z] at h
    have zb : (t != 0) = false := bne_eq_false_iff_eq.mpr z
    clear z
    obtain ⟨⟨b1, b2, b3, b4⟩, hb, h⟩ := Option.bind_eq_some_iff.1 h
    have HE : Aside0 (clerestoryref1_Edited.f k p1 p2 e0 e1 e2 e3 e4 e5 e6 e7 l8 e9 e10 l11 = some (b1, b2, b3, b4)) := ⟨hb⟩
    obtain ⟨s, hs, h⟩ := Option.bind_eq_some_iff.1 h
    clear hb
    refine iGp h ?_
    clear h
    intro ⟨s1, s2, s3⟩ h
    obtain rfl := Option.some.inj h
    have HS : Aside0 (clerestoryref1_SameDoc.f k a1 a2 b1 b2 = some true) := ⟨by rw [← s1]; exact hs⟩
    have s2 : a3 = b3 := s2
    have s3 : a4 = b4 := s3
    subst s2 s3
    clear hs s1 h
    go_upto_region 7 with (first | (go_at_call 56; (with_reducible refine (clerestoryref1_Edited.calls k A1 c1 p1 p2 e0 e1 e2 e3 e4 e5 e6 e7 A8 c8 l8 e9 e10 A11 c11 l11 _ _ _ _ _ HC1.out HL1.out HC8.out HL8.out HC11.out HL11.out HE.out).mono ?_); rintro e w8 ⟨vb, rfl, hs, hbl⟩; obtain ⟨Ab, cb, e_⟩ := Kd.R_slice (Kd.S_R hs); subst e_; have n_R := Aside0.mk (Kd.S_reads' hs).2.2; have n_L := Aside0.mk (Kd.S_reads' hs).2.1; clear hs; have n_HB := Aside0.mk (q01 HB.out hbl); have n_DK := Aside0.mk (q02 DK.out hbl); have n_EK := Aside0.mk (q02 EK.out hbl); have n_Gg5 := Aside0.mk (q02 Gg5.out hbl); have n_HC1 := Aside0.mk (Kd.C_below HC1.out hbl); have n_HC8 := Aside0.mk (Kd.C_below HC8.out hbl); have n_HC11 := Aside0.mk (Kd.C_below HC11.out hbl); have n_HCa := Aside0.mk (Kd.C_below HCa.out hbl); clear hbl HB DK EK Gg5 HC1 HC8 HC11 HCa; have HB := n_HB; have DK := n_DK; have EK := n_EK; have Gg5 := n_Gg5; have HC1 := n_HC1; have HC8 := n_HC8; have HC11 := n_HC11; have HCa := n_HCa; clear n_HB n_DK n_EK n_Gg5 n_HC1 n_HC8 n_HC11 n_HCa; clear hd0 hd1 hdf0 hdf1 ha0 ha1 ha2 ha3 ha4 ha5 ha6 ha7 ha8 ha9 ha10 ha11; clear hm0 hm1; obtain ⟨hd0, hd1, hdf0, hdf1⟩ := bk2 DK.out; obtain ⟨ha0, ha1, ha2, ha3, ha4, ha5, ha6, ha7, ha8, ha9, ha10, ha11⟩ := bk12 EK.out; obtain ⟨hm0, hm1, -, -⟩ := bk2 Gg5.out) | ((with_reducible refine q06 (N := 9) rfl ?_); refine box1 rfl (N := 9) rfl (cs := #[.slice none 0 0, .bool false]) (t := 24) zi ?_; intro g9 wg GK GG GS; have GK1 := bk2 GK.out; obtain ⟨hg0, hg1, hgf0, hgf1⟩ := GK1))
    clear hd0 hd1 hdf0 hdf1 ha0 ha1 ha2 ha3 ha4 ha5 ha6 ha7 ha8 ha9 ha10 ha11
    clear hm0 hm1
    have hbl := q0c (j := 1) (v := .bool b2) (q0c (j := 0) (v := .slice Ab b1.length cb) GS.out GG.out) GG.out
    have n_Gg5 := Aside0.mk (q02 Gg5.out hbl)
    have n_HCa := Aside0.mk (Kd.C_below HCa.out hbl)
    have n_n_R := Aside0.mk (Kd.C_below n_R.out hbl)
    have n_G := Aside0.mk ((q0l (q0l GK.out 0 (.slice Ab b1.length cb)) 1 (.bool b2)).trans (show _ = some (Obj.cells #[.slice Ab b1.length cb, .bool b2] 24 (0, 0)) from rfl))
    have n_HB := Aside0.mk (q01 HB.out hbl)
    clear hbl hg0 hg1 hgf0 hgf1 GK GG GS HB n_R Gg5 HCa
    generalize (wg.setCell ⟨g9, 0, none⟩ (.slice Ab b1.length cb)).setCell ⟨g9, 1, none⟩ (.bool b2) = wc at n_HB n_G n_n_R n_Gg5 n_HCa ⊢
    have HB := n_HB
    have HCb := n_n_R
    have HLb := n_L
    have Gg9 := n_G
    have Gg5 := n_Gg5
    have HCa := n_HCa
    clear n_HB n_n_R n_L n_G n_Gg5 n_HCa
    have x1 : (a3 == a3) = true := beq_self_eq_true a3
    have x2 : (a4 == a4) = true := beq_self_eq_true a4
    obtain ⟨hm0, hm1, -, -⟩ := bk2 Gg5.out
    obtain ⟨hn0, hn1, -, -⟩ := bk2 Gg9.out
    go_wp2_with (first | (go_at_call 51; (with_reducible refine (clerestorylaw1_domBegun.calls k true _ HG.out).mono ?_); rintro e w9 ⟨rfl, hbl⟩; have n_HB := Aside0.mk (q01 HB.out hbl); have n_Gg5 := Aside0.mk (q02 Gg5.out hbl); have n_Gg9 := Aside0.mk (q02 Gg9.out hbl); have n_HCa := Aside0.mk (Kd.C_below HCa.out hbl); have n_HCb := Aside0.mk (Kd.C_below HCb.out hbl); clear hbl HB Gg5 Gg9 HCa HCb; have HB := n_HB; have Gg5 := n_Gg5; have Gg9 := n_Gg9; have HCa := n_HCa; have HCb := n_HCb; clear n_HB n_Gg5 n_Gg9 n_HCa n_HCb; clear hm0 hm1 hn0 hn1; obtain ⟨hm0, hm1, -, -⟩ := bk2 Gg5.out; obtain ⟨hn0, hn1, -, -⟩ := bk2 Gg9.out) | (go_at_call 53; (with_reducible refine (clerestoryref1_SameDoc.calls k Aa ca a1 a2 Ab cb b1 b2 true _ HCa.out HLa.out HCb.out HLb.out HS.out).mono ?_); rintro e w9 ⟨rfl, hbl⟩; have n_HB := Aside0.mk (q01 HB.out hbl); clear HB; have HB := n_HB; clear n_HB))
    go_ret
    exact ⟨rfl, HB.out⟩
  · rw [if_neg z] at h
    have zb : (t != 0) = true := bne_iff_ne.mpr z
    clear z
    obtain ⟨s, hs, h⟩ := Option.bind_eq_some_iff.1 h
    refine iGp h ?_
    clear h
    intro ⟨s1, s2, s3⟩ h
    obtain rfl := Option.some.inj h
    have HS : Aside0 (clerestoryref1_SameDoc.f k a1 a2 [] false = some true) := ⟨by rw [← s1]; exact hs⟩
    have s2 : a4 = t := s2
    have s3 : a3 = 0 := s3
    subst s2 s3
    clear hs s1 h
    have x1 : ((0 : Int) == 0) = true := rfl
    have x2 : (a4 == a4) = true := beq_self_eq_true a4
    clear hd0 hd1 hdf0 hdf1 ha0 ha1 ha2 ha3 ha4 ha5 ha6 ha7 ha8 ha9 ha10 ha11
    go_wp2_with (first | (go_at_call 51; (with_reducible refine (clerestorylaw1_domBegun.calls k true _ HG.out).mono ?_); rintro e w9 ⟨rfl, hbl⟩; have n_HB := Aside0.mk (q01 HB.out hbl); have n_Gg5 := Aside0.mk (q02 Gg5.out hbl); have n_HCa := Aside0.mk (Kd.C_below HCa.out hbl); clear hbl HB Gg5 HCa; have HB := n_HB; have Gg5 := n_Gg5; have HCa := n_HCa; clear n_HB n_Gg5 n_HCa; clear hm0 hm1; obtain ⟨hm0, hm1, -, -⟩ := bk2 Gg5.out) | (go_at_call 53; (with_reducible refine (show Calls Tryd.prog 53 #[.agg #[.slice Aa a1.length ca, .bool a2], .agg #[.slice none 0 0, .bool false]] _ _ from clerestoryref1_SameDoc.calls k Aa ca a1 a2 none 0 [] false true _ HCa.out HLa.out (Kd.R_reads' (Kd.R_nil k43 43 _ 0 (fun _ => True))).2.2 (Nat.le_refl _) HS.out).mono ?_); rintro e w9 ⟨rfl, hbl⟩; have n_HB := Aside0.mk (q01 HB.out hbl); clear HB; have HB := n_HB; clear n_HB))
    go_ret
    exact ⟨rfl, HB.out⟩
end Go.Proofs.YthjnallbbhnndaaDoor.XDe
namespace Go.Proofs.YthjnallbbhnndaaDoor.XDe
open Go.Proofs.YthjnallbbhnndaaDoor.Short Go.RowKit Go.Proofs.YthjnallbbhnndaaDoorW.PrintWords Go.Proofs.YthjnallbbhnndaaDoorW.PrintLast Go.Proofs.YthjnallbbhnndaaDoor
def ok122 (x_ : S122) : Prop := (fun x_ : ByteArray => x_.size ≤ reachBytes) x_.f0 ∧ (fun x_ : ByteArray => x_.size ≤ reachBytes) x_.f1
theorem rd122 : Rd.Reads Tryd.prog 122 k122 ok122 :=
  ((Rd.reads_struct Tryd.underlying122 (by kernel_rfl) (Rd.readsF_cons rfl (Rd.reads_string Tryd.underlying9 (by kernel_rfl)) (Rd.readsF_one rfl (Rd.reads_string Tryd.underlying9 (by kernel_rfl))))).iso (fun x : S122 => (x.f0, x.f1)) (fun p_ => ⟨p_.1, p_.2⟩) (fun _ => rfl)).imp (fun _ h_ => h_)
def ok43 (x_ : S43) : Prop := (fun x_ : Int => (Lit.int .i64 x_).wf = true) x_.f0 ∧ (fun x_ : ByteArray => x_.size ≤ reachBytes) x_.f1 ∧ (fun l_ : List (S122) => l_.length * 32 ≤ reachBytes ∧ l_.length ≤ 9223372036854775807 ∧ ∀ a ∈ l_, ok122 a) x_.f2 ∧ (fun x_ : ByteArray => x_.size ≤ reachBytes) x_.f3 ∧ (fun x_ : Int => (Lit.int .i64 x_).wf = true) x_.f4 ∧ (fun l_ : List Int => l_.length * 8 ≤ reachBytes ∧ l_.length ≤ 9223372036854775807 ∧ ∀ a ∈ l_, (fun x_ : Int => (Lit.int .i64 x_).wf = true) a) x_.f5
theorem rd43 : Rd.Reads Tryd.prog 43 k43 ok43 :=
  ((Rd.reads_struct Tryd.underlying43 (by kernel_rfl) (Rd.readsF_cons rfl (Rd.reads_int Tryd.underlying3 (by kernel_rfl)) (Rd.readsF_cons rfl (Rd.reads_string Tryd.underlying9 (by kernel_rfl)) (Rd.readsF_cons rfl (show Rd.Reads Tryd.prog 41 (Kd.slice 122 k122) (fun l_ : List (S122) => l_.length * 32 ≤ reachBytes ∧ l_.length ≤ 9223372036854775807 ∧ ∀ a ∈ l_, ok122 a) from (Rd.reads_slice Tryd.underlying41 (by kernel_rfl) rd122).imp (fun l_ h_ => ⟨(show Tryd.prog.bytesOf 122 = 32 from by kernel_rfl) ▸ h_.1, h_.2⟩)) (Rd.readsF_cons rfl (Rd.reads_string Tryd.underlying9 (by kernel_rfl)) (Rd.readsF_cons rfl (Rd.reads_int Tryd.underlying3 (by kernel_rfl)) (Rd.readsF_one rfl (show Rd.Reads Tryd.prog 31 (Kd.slice 3 (Kd.int .i64)) (fun l_ : List Int => l_.length * 8 ≤ reachBytes ∧ l_.length ≤ 9223372036854775807 ∧ ∀ a ∈ l_, (fun x_ : Int => (Lit.int .i64 x_).wf = true) a) from (Rd.reads_slice Tryd.underlying31 (by kernel_rfl) (Rd.reads_int Tryd.underlying3 (by kernel_rfl))).imp (fun l_ h_ => ⟨(show Tryd.prog.bytesOf 3 = 8 from by kernel_rfl) ▸ h_.1, h_.2⟩))))))))).iso (fun x : S43 => (x.f0, x.f1, x.f2, x.f3, x.f4, x.f5)) (fun p_ => ⟨p_.1, p_.2.1, p_.2.2.1, p_.2.2.2.1, p_.2.2.2.2.1, p_.2.2.2.2.2⟩) (fun _ => rfl)).imp (fun _ h_ => h_)
def ok24 (x_ : S24) : Prop := (fun l_ : List (S43) => l_.length * 96 ≤ reachBytes ∧ l_.length ≤ 9223372036854775807 ∧ ∀ a ∈ l_, ok43 a) x_.f0 ∧ (fun _ : Bool => True) x_.f1
theorem rd24 : Rd.Reads Tryd.prog 24 k24 ok24 :=
  ((Rd.reads_struct Tryd.underlying24 (by kernel_rfl) (Rd.readsF_cons rfl (show Rd.Reads Tryd.prog 22 (Kd.slice 43 k43) (fun l_ : List (S43) => l_.length * 96 ≤ reachBytes ∧ l_.length ≤ 9223372036854775807 ∧ ∀ a ∈ l_, ok43 a) from (Rd.reads_slice Tryd.underlying22 (by kernel_rfl) rd43).imp (fun l_ h_ => ⟨(show Tryd.prog.bytesOf 43 = 96 from by kernel_rfl) ▸ h_.1, h_.2⟩)) (Rd.readsF_one rfl (Rd.reads_bool Tryd.underlying4 (by kernel_rfl))))).iso (fun x : S24 => (x.f0, x.f1)) (fun p_ => ⟨p_.1, p_.2⟩) (fun _ => rfl)).imp (fun _ h_ => h_)
def ok87 (x_ : S87) : Prop := (fun x_ : Int => (Lit.int .i64 x_).wf = true) x_.f0 ∧ (fun x_ : Int => (Lit.int .i64 x_).wf = true) x_.f1 ∧ (fun x_ : Int => (Lit.int .i64 x_).wf = true) x_.f2 ∧ (fun x_ : Int => (Lit.int .i64 x_).wf = true) x_.f3 ∧ (fun x_ : ByteArray => x_.size ≤ reachBytes) x_.f4 ∧ (fun x_ : ByteArray => x_.size ≤ reachBytes) x_.f5 ∧ ok43 x_.f6
theorem rd87 : Rd.Reads Tryd.prog 87 k87 ok87 :=
  ((Rd.reads_struct Tryd.underlying87 (by kernel_rfl) (Rd.readsF_cons rfl (Rd.reads_int Tryd.underlying3 (by kernel_rfl)) (Rd.readsF_cons rfl (Rd.reads_int Tryd.underlying3 (by kernel_rfl)) (Rd.readsF_cons rfl (Rd.reads_int Tryd.underlying3 (by kernel_rfl)) (Rd.readsF_cons rfl (Rd.reads_int Tryd.underlying3 (by kernel_rfl)) (Rd.readsF_cons rfl (Rd.reads_string Tryd.underlying9 (by kernel_rfl)) (Rd.readsF_cons rfl (Rd.reads_string Tryd.underlying9 (by kernel_rfl)) (Rd.readsF_one rfl rd43)))))))).iso (fun x : S87 => (x.f0, x.f1, x.f2, x.f3, x.f4, x.f5, x.f6)) (fun p_ => ⟨p_.1, p_.2.1, p_.2.2.1, p_.2.2.2.1, p_.2.2.2.2.1, p_.2.2.2.2.2.1, p_.2.2.2.2.2.2⟩) (fun _ => rfl)).imp (fun _ h_ => h_)
def clerestorylaw1_DomEdits.Pure : Prop := ∀ (l0_0 : List (S43)) (a0_1 : Bool) (a1_0 : Int) (a1_1 : Int) (a1_2 : Int) (a1_3 : Int) (a1_4 : ByteArray) (a1_5 : ByteArray) (a1_6 : Int) (a1_7 : ByteArray) (l1_8 : List (S122)) (a1_9 : ByteArray) (a1_10 : Int) (l1_11 : List Int), (fun l_ : List (S43) => l_.length * 96 ≤ reachBytes ∧ l_.length ≤ 9223372036854775807 ∧ ∀ a ∈ l_, ok43 a) l0_0 → (fun _ : Bool => True) a0_1 → (fun x_ : Int => (Lit.int .i64 x_).wf = true) a1_0 → (fun x_ : Int => (Lit.int .i64 x_).wf = true) a1_1 → (fun x_ : Int => (Lit.int .i64 x_).wf = true) a1_2 → (fun x_ : Int => (Lit.int .i64 x_).wf = true) a1_3 → (fun x_ : ByteArray => x_.size ≤ reachBytes) a1_4 → (fun x_ : ByteArray => x_.size ≤ reachBytes) a1_5 → (fun x_ : Int => (Lit.int .i64 x_).wf = true) a1_6 → (fun x_ : ByteArray => x_.size ≤ reachBytes) a1_7 → (fun l_ : List (S122) => l_.length * 32 ≤ reachBytes ∧ l_.length ≤ 9223372036854775807 ∧ ∀ a ∈ l_, ok122 a) l1_8 → (fun x_ : ByteArray => x_.size ≤ reachBytes) a1_9 → (fun x_ : Int => (Lit.int .i64 x_).wf = true) a1_10 → (fun l_ : List Int => l_.length * 8 ≤ reachBytes ∧ l_.length ≤ 9223372036854775807 ∧ ∀ a ∈ l_, (fun x_ : Int => (Lit.int .i64 x_).wf = true) a) l1_11 → ∃ k, clerestorylaw1_DomEdits.f k l0_0 a0_1 a1_0 a1_1 a1_2 a1_3 a1_4 a1_5 a1_6 a1_7 l1_8 a1_9 a1_10 l1_11 = some true
end Go.Proofs.YthjnallbbhnndaaDoor.XDe
namespace Go.Proofs.YthjnallbbhnndaaDoor.Dm
open Go Go.RowKit Go.Proofs.YthjnallbbhnndaaDoor.XDe Go.Proofs.YthjnallbbhnndaaDoorW.PrintWords Go.Proofs.YthjnallbbhnndaaDoorW.PrintLast Go.Proofs.YthjnallbbhnndaaDoorW.PrintMore
set_option maxRecDepth 100000
theorem few_of_form (l0 : List S43) (q : Bool) (most : Int) (hm : 0 ≤ most ∧ most ≤ 1000) (hl : l0.length * 96 ≤ reachBytes ∧ l0.length ≤ 9223372036854775807 ∧ ∀ a ∈ l0, ok43 a) :
    ∃ ns, clerestorylaw1_few.f l0 q most = some (ns, q) ∧ (ns.length : Int) ≤ most ∧ SmallN ns ∧ KidsLe ns 17592186044416 := by
  obtain ⟨ns, hns⟩ : ∃ ns, l0.take (mn (l0.length : Int) most).toNat = ns := ⟨_, rfl⟩
  have hmn : 0 ≤ mn (l0.length : Int) most ∧ mn (l0.length : Int) most ≤ (l0.length : Int) ∧ mn (l0.length : Int) most ≤ most := by unfold mn; split <;> omega
  refine ⟨ns, ?_, by rw [← hns, List.length_take]; omega, ?_⟩
  · unfold clerestorylaw1_few.f
    rw [if_pos hmn.1, if_pos hmn.2.1, hns]
  have hok : ∀ a ∈ ns, ok43 a := fun a ha => hl.2.2 a (by rw [← hns] at ha; exact List.mem_of_mem_take ha)
  have hz : smallA (z43).f2 ∧ (z43).f1.size ≤ 140737488355328 ∧ (z43).f5.length ≤ 17592186044416 := ⟨fun x hx => by simp [z43] at hx, by decide, by decide⟩
  have hall : ∀ i : Int, smallA (q00 ns i).f2 ∧ (q00 ns i).f1.size ≤ 140737488355328 ∧ (q00 ns i).f5.length ≤ 17592186044416 := by
    intro i
    unfold q00
    by_cases c : i.toNat < ns.length
    · have e : ns.getD i.toNat z43 = ns[i.toNat] := by simp [List.getD, c]
      rw [e]
      obtain ⟨_, h1, h2, _, _, h5⟩ := hok _ (List.getElem_mem c)
      unfold reachBytes at h1 h2 h5
      refine ⟨fun x hx => ?_, by omega, by have := h5.1; omega⟩
      have := (h2.2.2 x hx).1
      unfold reachBytes at this
      omega
    · have e : ns.getD i.toNat z43 = z43 := by simp [List.getD, c]
      rw [e]
      exact hz
  exact ⟨fun i => ⟨(hall i).1, (hall i).2.1⟩, fun i => (hall i).2.2⟩
theorem both_check (ns : List S43) (q : Bool) (hS : SmallN ns) (hK : KidsLe ns 17592186044416) : ∃ K, ∀ k, K < k → dom_Check.f k ns q = some (docE ns) ∧ clerestoryref1_DocErr.f k ns q = some (docE ns) :=
  ⟨2 * ns.length + rounds ns 17592186044416, fun k hk => ⟨check_eq ns q hS 17592186044416 (by decide) hK k hk, docErr_eq ns q 17592186044416 (by decide) hK k hk⟩⟩
end Go.Proofs.YthjnallbbhnndaaDoor.Dm
namespace Go.Proofs.YthjnallbbhnndaaDoor.Pure
open Go Go.RowKit Go.Proofs.YthjnallbbhnndaaDoor.XDe Go.Proofs.YthjnallbbhnndaaDoor.Dm Go.Proofs.YthjnallbbhnndaaDoorW.PrintWords Go.Proofs.YthjnallbbhnndaaDoorW.PrintLast Go.Proofs.YthjnallbbhnndaaDoorW.PrintMore
set_option maxRecDepth 100000
theorem begunD : clerestorylaw1_domBegun.f 2000 = some true := by decide +kernel
theorem begunDK (k : Nat) (hk : 2000 ≤ k) : clerestorylaw1_domBegun.f k = some true := by
  have := more_rounds (g := fun k => clerestorylaw1_domBegun.f k) clerestorylaw1_domBegun.mono 2000 (k - 2000) _ begunD
  rw [show 2000 + (k - 2000) = k by omega] at this
  exact this
theorem sameNone (k : Nat) (hk : 2000 < k) (q : Bool) : clerestoryref1_SameDoc.f k ([] : List S43) q [] q = some true :=
  sameDoc_self [] q (by decide) (fun i => rd_all (P := small 1000) (small_z 1000) (fun y hy => by cases hy) i) k (by simp only [List.length_nil]; omega)
theorem fits_of {ns : List S43} (h : DocOk ns) : ownFits ns = true := by
  unfold ownFits
  have := h.many
  rw [Bool.and_eq_true, List.all_eq_true]
  refine ⟨decide_eq_true (by omega), fun y hy => ?_⟩
  have := h.small y hy
  unfold small at this
  rw [Bool.and_eq_true]
  exact ⟨decide_eq_true (by omega), decide_eq_true (by omega)⟩
theorem DomEdits : clerestorylaw1_DomEdits.Pure := by
  intro l0 q e0 e1 e2 e3 e4 e5 e6 e7 l8 e9 e10 l11 hl _ _ _ _ _ h4 _ _ h7 h8 _ _ _
  obtain ⟨ns, hf, hn, hS, hK⟩ := few_of_form l0 q 210 (by omega) hl
  obtain ⟨K, hKk⟩ := both_check ns q hS hK
  obtain ⟨k, hkk⟩ : ∃ k, k = K + 200001 := ⟨_, rfl⟩
  refine ⟨k, ?_⟩
  obtain ⟨hc1, hc2⟩ := hKk k (by omega)
  have h4 : e4.size ≤ reachBytes := h4
  have h7 : e7.size ≤ reachBytes := h7
  have h8 : l8.length * 32 ≤ reachBytes ∧ l8.length ≤ 9223372036854775807 ∧ ∀ a ∈ l8, ok122 a := h8
  have h8s : smallA l8 := fun x hx => by
    have := (h8.2.2 x hx).1
    have : x.f0.size ≤ reachBytes := this
    unfold reachBytes at this
    omega
  unfold reachBytes at h4 h7 h8
  unfold clerestorylaw1_DomEdits.f
  rw [hf, Option.bind_some]
  show ((dom_Apply.f k ns q e0 e1 e2 e3 e4 e5 e6 e7 l8 e9 e10 l11).bind _) = _
  by_cases c : docE ns = 0
  · have hd := (docE_iff ns).1 c
    have hm := hd.many
    obtain ⟨a, b, r, hp, hw⟩ := both_all hd q e0 e1 e2 e3 e4 e5 e6 e7 l8 e9 e10 l11 k (by omega) (by omega) (by omega) h8s (by omega)
    have hA : dom_Apply.f k ns q e0 e1 e2 e3 e4 e5 e6 e7 l8 e9 e10 l11 = if r ≠ 0 then some ([], false, 0, r) else some (a, q, b, 0) := by
      unfold dom_Apply.f
      rw [hc1, Option.bind_some, if_neg (by omega), if_pos ⟨hd.some_, fits_of hd⟩, hp, Option.bind_some]
    rw [hA]
    rcases hw with ⟨hr, hw⟩ | ⟨hr, hw, hok, hsm⟩
    · rw [if_pos hr, Option.bind_some]
      show ((clerestoryref1_DocErr.f k ns q).bind _) = _
      rw [hc2, Option.bind_some, begunDK k (by omega), Option.bind_some, if_pos rfl, if_pos c]
      show ((clerestoryref1_Edited.f k ns q e0 e1 e2 e3 e4 e5 e6 e7 l8 e9 e10 l11).bind _) = _
      rw [hw, Option.bind_some]
      show ((clerestoryref1_SameDoc.f k [] false [] false).bind _) = _
      rw [sameNone k (by omega), Option.bind_some, if_pos ⟨rfl, rfl, rfl⟩]
    · rw [if_neg (by omega), Option.bind_some]
      show ((clerestoryref1_DocErr.f k ns q).bind _) = _
      rw [hc2, Option.bind_some, begunDK k (by omega), Option.bind_some, if_pos rfl, if_pos c]
      show ((clerestoryref1_Edited.f k ns q e0 e1 e2 e3 e4 e5 e6 e7 l8 e9 e10 l11).bind _) = _
      rw [hw, Option.bind_some]
      show ((clerestoryref1_SameDoc.f k a q a q).bind _) = _
      have hm2 := hok.many
      rw [sameDoc_self a q (by omega) (fun i => rd_all (P := small 1000) (small_z 1000) (small_up (M' := 1000) (by omega) hsm) i) k (by omega), Option.bind_some, if_pos ⟨rfl, rfl, rfl⟩]
  · have hA : dom_Apply.f k ns q e0 e1 e2 e3 e4 e5 e6 e7 l8 e9 e10 l11 = some ([], false, 0, docE ns) := by
      unfold dom_Apply.f
      rw [hc1, Option.bind_some, if_pos c]
    rw [hA, Option.bind_some]
    show ((clerestoryref1_DocErr.f k ns q).bind _) = _
    rw [hc2, Option.bind_some, begunDK k (by omega), Option.bind_some, if_pos rfl, if_neg c]
    show ((clerestoryref1_SameDoc.f k [] false [] false).bind _) = _
    rw [sameNone k (by omega), Option.bind_some, if_pos ⟨rfl, rfl, rfl⟩]
end Go.Proofs.YthjnallbbhnndaaDoor.Pure
namespace Go.Proofs.YthjnallbbhnndaaDoor
open Go Go.Shelf Go.ChangeShapes Go.WideShapes Go.ChangeAt Go.RowKit Go.Lib
def lay2 : List (String × DataW Unit) := [("unicode/utf8.acceptRanges", Rows.laid_unicode_utf8_acceptRanges), ("unicode/utf8.first", Rows.laid_unicode_utf8_first)]
noncomputable def laidWorld (os : Os) : World :=
  let w0 := World.holding Tryd.prog os ⟨#[], #[], []⟩
  let put (h : Array Obj) (g : Nat) (cs : Array Value) : Array Obj := h.modify g fun
    | .cells _ t frozen => .cells cs t frozen
    | o => o
  let h1 := put w0.heap 1 (Lib.firstTab.map fun z => Value.int .u8 z).toArray
  let h2 := put h1 2 ((List.range 16).flatMap fun i => [Value.int .u8 (Lib.accLo i), Value.int .u8 (Lib.accHi i)]).toArray
  { w0 with heap := h2 }
theorem laid_met (os : Os) (args : Array Value) : laidMet Tryd.prog lay2 ((laidWorld os).forCall (fun _ _ => 0) ⟨#[], args, []⟩).memory :=
  (LaidIn.of_run (l := lay2) [2, 1] 8 (by kernel_rfl) (by kernel_rfl) (by kernel_rfl) (by kernel_rfl)).met
theorem own_ : ownKnob Tryd.prog.godebug = none := by kernel_rfl
theorem laidOut_ : laidOutB Tryd.prog = true := by kernel_rfl
end Go.Proofs.YthjnallbbhnndaaDoor
