/- Written by this session's program (wip/xp) out of the translation as Lean prints it: for each Go function a Lean function and the proof that the code answers just so, on the conditions named in each statement. -/
import Derived.Test.YthjnallbbhnndaaDoorG4
namespace Go.Proofs.YthjnallbbhnndaaDoor.XDe
open Go.Proofs.YthjnallbbhnndaaDoor.Short Go.RowKit Go.Proofs.YthjnallbbhnndaaDoorW.PrintWords Go.Proofs.YthjnallbbhnndaaDoorW.PrintLast Go.Proofs.YthjnallbbhnndaaDoorW.PrintMore
attribute [local go_sem] q16 q14 q1g q1f q0v q0u q15 q13   -- for this text's walks alone
set_option linter.unusedVariables false
set_option linter.unusedSimpArgs false
theorem between_true {a lo hi : Int} (h : clerestoryref1_between.f a lo hi = some true) : lo ≤ a ∧ a ≤ hi := by
 unfold clerestoryref1_between.f at h
 by_cases c : a ≥ lo
 ·rw [if_pos c] at h
  exact ⟨c, of_decide_eq_true (Option.some.inj h)⟩
 ·rw [if_neg c] at h
  exact absurd (Option.some.inj h) (by decide)
theorem q0q {w w' : World} (h : Drawn0 w w') : Below w.heap.size w w' := by
 obtain ⟨n, rfl⟩ := h
 exact q1e (Below.refl _ _) n
theorem ed_sixo {w wx : World} {g t : Nat} {v0 v1 v2 v3 v4 v5 : Value} (u0 u1 u2 u3 u4 u5 : Value) (hb : Below w.heap.size w wx) (hg : w.heap.size ≤ g) (h : wx.heap[g]? = some (.cells #[v0, v1, v2, v3, v4, v5] t (0, 0))) :
 Below w.heap.size w ((((((wx.setCell ⟨g, 0, none⟩ u0).setCell ⟨g, 1, none⟩ u1).setCell ⟨g, 2, none⟩ u2).setCell ⟨g, 3, none⟩ u3).setCell ⟨g, 4, none⟩ u4).setCell ⟨g, 5, none⟩ u5) ∧
 ((((((wx.setCell ⟨g, 0, none⟩ u0).setCell ⟨g, 1, none⟩ u1).setCell ⟨g, 2, none⟩ u2).setCell ⟨g, 3, none⟩ u3).setCell ⟨g, 4, none⟩ u4).setCell ⟨g, 5, none⟩ u5).heap[g]? = some (.cells #[u0, u1, u2, u3, u4, u5] t (0, 0)) :=
 ⟨q0f (q0f (q0f (q0f (q0f (q0f hb hg) hg) hg) hg) hg) hg, q0p (q0p (q0p (q0p (q0p (q0p h 0 u0) 1 u1) 2 u2) 3 u3) 4 u4) 5 u5⟩
def edSw (k : Nat) (l0 : List S43) (q : Bool) (e0 e1 e2 e3 : Int) (e4 : ByteArray) (has : Bool) : Option Int :=
 if e0 = 1 then (if (q00 l0 e1).f0 = 2 then (clerestoryref1_domName.f k e4 false).bind fun b => some (if b = true then 0 else 3) else some 7)
 else if e0 = 2 then (if (q00 l0 e1).f0 = 2 then some (if has = true then 0 else 5) else some 7)
 else if e0 = 3 then (if (q00 l0 e1).f0 = 3 then some 0 else if (q00 l0 e1).f0 = 4 then some 0 else some 7)
 else if e0 = 6 then (if e1 = 0 then some 7 else if (q00 l0 e1).f4 < 0 then some 5 else some 0)
 else if 0 ≤ e2 ∧ e2 < (l0.length : Int) then
  (if (q00 l0 e1).f0 > 2 then some 7 else if e2 = 0 then some 7 else if e1 = 0 ∧ (q00 l0 e2).f0 = 3 then some 7 else if (q00 l0 e2).f4 ≥ 0 then some 9 else
   (if e3 = -1 then some 0 else clerestoryref1_placeIn.f k (q00 l0 e1).f5 e3).bind fun i => if i < 0 then some 5 else (clerestoryref1_Under.f k l0 q e1 e2).bind fun u => some (if u = true then 8 else 0)) else none
def clerestoryref1_EditErr.f (k : Nat) (l0 : List S43) (q : Bool) (e0 e1 e2 e3 : Int) (e4 e5 : ByteArray) (e6 : Int) (e7 : ByteArray) (l8 : List S122) (e9 : ByteArray) (e10 : Int) (l11 : List Int) : Option Int :=
 (clerestoryref1_between.f e0 1 6).bind fun t => if t = true then
  (if e0 = 4 then (if 0 < l11.length then some 3 else if e6 = 1 then some 7 else clerestoryref1_NodeErr.f k e6 e7 l8 e9 e10 l11) else
   (clerestoryref1_between.f e1 0 (wrap64 ((l0.length : Int) - 1))).bind fun b1 => if b1 = true then
    ((if e0 = 5 then clerestoryref1_between.f e2 0 (wrap64 ((l0.length : Int) - 1)) else some true).bind fun b2 => if b2 = true then
     (if 0 ≤ e1 ∧ e1 < (l0.length : Int) then (clerestoryref1_AttrOf.f k (q00 l0 e1).f2 e4).bind fun p => edSw k l0 q e0 e1 e2 e3 e4 p.2 else none) else some 5) else some 5) else some 1
theorem edSw_mono (l0 : List S43) (q : Bool) (e0 e1 e2 e3 : Int) (e4 : ByteArray) (has : Bool) (k : Nat) : LeO (edSw k l0 q e0 e1 e2 e3 e4 has) (edSw (k + 1) l0 q e0 e1 e2 e3 e4 has) := by
 unfold edSw
 repeat' first | with_reducible first | apply clerestoryref1_domName.mono | apply clerestoryref1_placeIn.mono | apply clerestoryref1_Under.mono | exact LeO.refl _ | refine LeO.ite ?_ ?_ | refine LeO.bind ?_ (fun _ => ?_)
theorem clerestoryref1_EditErr.mono (l0 : List S43) (q : Bool) (e0 e1 e2 e3 : Int) (e4 e5 : ByteArray) (e6 : Int) (e7 : ByteArray) (l8 : List S122) (e9 : ByteArray) (e10 : Int) (l11 : List Int) (k : Nat) : LeO (clerestoryref1_EditErr.f k l0 q e0 e1 e2 e3 e4 e5 e6 e7 l8 e9 e10 l11) (clerestoryref1_EditErr.f (k + 1) l0 q e0 e1 e2 e3 e4 e5 e6 e7 l8 e9 e10 l11) := by
 unfold clerestoryref1_EditErr.f
 repeat' first | with_reducible first | apply clerestoryref1_NodeErr.mono | apply clerestoryref1_AttrOf.mono | apply edSw_mono | exact LeO.refl _ | refine LeO.ite ?_ ?_ | refine LeO.bind ?_ (fun _ => ?_)
set_option maxHeartbeats 16000000 in
set_option maxRecDepth 100000 in
theorem clerestoryref1_EditErr.calls (k : Nat) (A0 : Option Addr) (c0 : Nat) (l0 : List S43) (q : Bool) (e0 e1 e2 e3 : Int) (e4 e5 : ByteArray) (e6 : Int) (e7 : ByteArray) (A8 : Option Addr) (c8 : Nat) (l8 : List S122) (e9 : ByteArray) (e10 : Int) (A11 : Option Addr) (c11 : Nat) (l11 : List Int) (r : Int) (w : World) (hr0 : Kd.C k43 w A0 l0.length l0) (hc0 : l0.length ≤ c0) (hC8 : Kd.C k122 w A8 l8.length l8) (hL8 : l8.length ≤ c8) (hC11 : Kd.C (Kd.int .i64) w A11 l11.length l11) (hL11 : l11.length ≤ c11) (h : clerestoryref1_EditErr.f k l0 q e0 e1 e2 e3 e4 e5 e6 e7 l8 e9 e10 l11 = some r) :
 Calls Tryd.prog 106 #[.agg #[.slice A0 l0.length c0, .bool q], .agg #[.int .i64 e0, .int .i64 e1, .int .i64 e2, .int .i64 e3, .string e4, .string e5, .int .i64 e6, .string e7, .slice A8 l8.length c8, .string e9, .int .i64 e10, .slice A11 l11.length c11]] w fun e w' => e = .returned (.int .i64 r) ∧ Below w.heap.size w w' := by
 have hu24 := Tryd.underlying24
 have hu43 := Tryd.underlying43
 have hu87 := Tryd.underlying87
 have HC := aS hr0
 have HL := aS hc0
 have HC8 := aS hC8
 have HL8 := aS hL8
 have HC11 := aS hC11
 have HL11 := aS hL11
 clear hr0 hc0 hC8 hL8 hC11 hL11
 unfold clerestoryref1_EditErr.f at h
 obtain ⟨t, ht, h⟩ := Option.bind_eq_some_iff.1 h
 have HT := aS ht
 clear ht
 go_enter Tryd.func106, Tryd.ntmps106
 go_upto_region 1 with (first | ((with_reducible refine q07 (N := 2) rfl ?_); refine box1 rfl (N := 2) rfl (cs := #[.slice A0 l0.length c0, .bool q]) (t := 24) zh ?_; intro gd wd DK GD DS) | ((with_reducible refine q07 (N := 3) rfl ?_); refine box1 rfl (N := 3) rfl (cs := #[.int .i64 e0, .int .i64 e1, .int .i64 e2, .int .i64 e3, .string e4, .string e5, .int .i64 e6, .string e7, .slice A8 l8.length c8, .string e9, .int .i64 e10, .slice A11 l11.length c11]) (t := 87) zh ?_; intro ge we EK GE ES))
 have HB := aS (q02 DS.out ES.out)
 have n_DK := aS (q01 DK.out ES.out)
 clear DK DS ES GD GE
 have DK := n_DK
 clear n_DK
 obtain ⟨hd0, hd1, -, -⟩ := bk2 DK.out
 obtain ⟨ha0, ha1, ha2, ha3, ha4, ha5, ha6, ha7, ha8, ha9, ha10, ha11⟩ := bk12 EK.out
 cases t with
 | false =>
  rw [if_neg Bool.false_ne_true] at h
  obtain rfl := Option.some.inj h
  go_wp2_with (go_at_call 73; (with_reducible refine (clerestoryref1_between.calls e0 1 6 false _ HT.out).mono ?_); rintro e w7 ⟨rfl, hdr⟩; have hbl := q0q hdr; clear hdr; have n_HB := aS (q02 HB.out hbl); have n_DK := aS (q01 DK.out hbl); have n_EK := aS (q01 EK.out hbl); clear hbl HB DK EK hd0 hd1 ha0 ha1 ha2 ha3 ha4 ha5 ha6 ha7 ha8 ha9 ha10 ha11; have HB := n_HB; have DK := n_DK; have EK := n_EK; clear n_HB n_DK n_EK; obtain ⟨hd0, hd1, -, -⟩ := bk2 DK.out; obtain ⟨ha0, ha1, ha2, ha3, ha4, ha5, ha6, ha7, ha8, ha9, ha10, ha11⟩ := bk12 EK.out)
  go_ret
  exact ⟨rfl, (z8 HB.out)⟩
 | true =>
  rw [if_pos rfl] at h
  have HT6 := aS (between_true HT.out)
  go_upto_region 4 with (go_at_call 73; (with_reducible refine (clerestoryref1_between.calls e0 1 6 true _ HT.out).mono ?_); rintro e w7 ⟨rfl, hdr⟩; have hbl := q0q hdr; clear hdr; have n_HB := aS (q02 HB.out hbl); have n_DK := aS (q01 DK.out hbl); have n_EK := aS (q01 EK.out hbl); clear hbl HB DK EK hd0 hd1 ha0 ha1 ha2 ha3 ha4 ha5 ha6 ha7 ha8 ha9 ha10 ha11; have HB := n_HB; have DK := n_DK; have EK := n_EK; clear n_HB n_DK n_EK; obtain ⟨hd0, hd1, -, -⟩ := bk2 DK.out; obtain ⟨ha0, ha1, ha2, ha3, ha4, ha5, ha6, ha7, ha8, ha9, ha10, ha11⟩ := bk12 EK.out)
  by_cases s4 : e0 = 4
  ·rw [if_pos s4] at h
   have s4b : (e0 == 4) = true := beq_iff_eq.mpr s4
   have s4n : (e0 != 4) = false := bne_eq_false_iff_eq.mpr s4
   skip
   clear s4
   by_cases g1 : 0 < l11.length
   ·rw [if_pos g1] at h
    have g1b : decide (0 < l11.length) = true := decide_eq_true g1
    obtain rfl := Option.some.inj h
    have g1c : decide ((l11.length : Int) > 0) = true := decide_eq_true (by omega)
    go_wp2
    go_ret
    exact ⟨rfl, (z8 HB.out)⟩
   ·rw [if_neg g1] at h
    have g1b : decide (0 < l11.length) = false := decide_eq_false g1
    have g1c : decide ((l11.length : Int) > 0) = false := decide_eq_false (by omega)
    by_cases g2 : e6 = 1
    ·rw [if_pos g2] at h
     have g2b : (e6 == 1) = true := beq_iff_eq.mpr g2
     have g2n : (e6 != 1) = false := bne_eq_false_iff_eq.mpr g2
     skip
     clear g2
     obtain rfl := Option.some.inj h
     go_wp2
     go_ret
     exact ⟨rfl, (z8 HB.out)⟩
    ·rw [if_neg g2] at h
     have g2b : (e6 == 1) = false := beq_eq_false_iff_ne.mpr g2
     have g2n : (e6 != 1) = true := bne_iff_ne.mpr g2
     have HN := aS h
     clear h
     go_wp2_with (go_at_call 72; (with_reducible refine (clerestoryref1_NodeErr.calls k e6 e7 A8 c8 l8 e9 e10 A11 c11 l11 r _ (Kd.C_below HC8.out HB.out) HL8.out (Kd.C_below HC11.out HB.out) HL11.out HN.out).mono ?_); rintro e w7 ⟨rfl, hbl⟩; have n_HB := aS (q02 HB.out hbl); clear hbl HB ; have HB := n_HB; clear n_HB)
     go_ret
     exact ⟨rfl, (z8 HB.out)⟩
  ·rw [if_neg s4] at h
   have s4b : (e0 == 4) = false := beq_eq_false_iff_ne.mpr s4
   have s4n : (e0 != 4) = true := bne_iff_ne.mpr s4
   obtain ⟨b1, h1, h⟩ := Option.bind_eq_some_iff.1 h
   have H1 := aS h1
   clear h1
   cases b1 with
   | false =>
    rw [if_neg Bool.false_ne_true] at h
    obtain rfl := Option.some.inj h
    go_wp2_with (go_at_call 73; (with_reducible refine (clerestoryref1_between.calls e1 0 (wrap64 ((l0.length : Int) - 1)) false _ H1.out).mono ?_); rintro e w7 ⟨rfl, hdr⟩; have hbl := q0q hdr; clear hdr; have n_HB := aS (q02 HB.out hbl); have n_DK := aS (q01 DK.out hbl); have n_EK := aS (q01 EK.out hbl); clear hbl HB DK EK hd0 hd1 ha0 ha1 ha2 ha3 ha4 ha5 ha6 ha7 ha8 ha9 ha10 ha11; have HB := n_HB; have DK := n_DK; have EK := n_EK; clear n_HB n_DK n_EK; obtain ⟨hd0, hd1, -, -⟩ := bk2 DK.out; obtain ⟨ha0, ha1, ha2, ha3, ha4, ha5, ha6, ha7, ha8, ha9, ha10, ha11⟩ := bk12 EK.out)
    go_ret
    exact ⟨rfl, (z8 HB.out)⟩
   | true =>
    rw [if_pos rfl] at h
    obtain ⟨b2, h2, h⟩ := Option.bind_eq_some_iff.1 h
    by_cases s5 : e0 = 5
    ·rw [if_pos s5] at h2
     have s5b : (e0 == 5) = true := beq_iff_eq.mpr s5
     have s5n : (e0 != 5) = false := bne_eq_false_iff_eq.mpr s5
     have f1 : ¬ e0 = 1 := by omega
     have f2 : ¬ e0 = 2 := by omega
     have f3 : ¬ e0 = 3 := by omega
     have f6 : ¬ e0 = 6 := by omega
     have F5 := aS (And.intro f1 (And.intro f2 (And.intro f3 f6)))
     have s1b : (e0 == 1) = false := beq_eq_false_iff_ne.mpr f1
     have s2b : (e0 == 2) = false := beq_eq_false_iff_ne.mpr f2
     have s3b : (e0 == 3) = false := beq_eq_false_iff_ne.mpr f3
     have s6b : (e0 == 6) = false := beq_eq_false_iff_ne.mpr f6
     clear f1 f2 f3 f6
     clear s5
     have H2 := aS h2
     clear h2
     cases b2 with
     | false =>
      rw [if_neg Bool.false_ne_true] at h
      obtain rfl := Option.some.inj h
      go_wp2_with (first | (go_at_call 73; (with_reducible refine (clerestoryref1_between.calls e1 0 (wrap64 ((l0.length : Int) - 1)) true _ H1.out).mono ?_); rintro e w7 ⟨rfl, hdr⟩; have hbl := q0q hdr; clear hdr; have n_HB := aS (q02 HB.out hbl); have n_DK := aS (q01 DK.out hbl); have n_EK := aS (q01 EK.out hbl); clear hbl HB DK EK hd0 hd1 ha0 ha1 ha2 ha3 ha4 ha5 ha6 ha7 ha8 ha9 ha10 ha11; have HB := n_HB; have DK := n_DK; have EK := n_EK; clear n_HB n_DK n_EK; obtain ⟨hd0, hd1, -, -⟩ := bk2 DK.out; obtain ⟨ha0, ha1, ha2, ha3, ha4, ha5, ha6, ha7, ha8, ha9, ha10, ha11⟩ := bk12 EK.out) | (go_at_call 73; (with_reducible refine (clerestoryref1_between.calls e2 0 (wrap64 ((l0.length : Int) - 1)) false _ H2.out).mono ?_); rintro e w7 ⟨rfl, hdr⟩; have hbl := q0q hdr; clear hdr; have n_HB := aS (q02 HB.out hbl); have n_DK := aS (q01 DK.out hbl); have n_EK := aS (q01 EK.out hbl); clear hbl HB DK EK hd0 hd1 ha0 ha1 ha2 ha3 ha4 ha5 ha6 ha7 ha8 ha9 ha10 ha11; have HB := n_HB; have DK := n_DK; have EK := n_EK; clear n_HB n_DK n_EK; obtain ⟨hd0, hd1, -, -⟩ := bk2 DK.out; obtain ⟨ha0, ha1, ha2, ha3, ha4, ha5, ha6, ha7, ha8, ha9, ha10, ha11⟩ := bk12 EK.out))
      go_ret
      exact ⟨rfl, (z8 HB.out)⟩
     | true =>
      rw [if_pos rfl] at h
      by_cases x01 : 0 ≤ e1 ∧ e1 < (l0.length : Int)
      ·rw [if_pos x01] at h
       obtain ⟨⟨v, has⟩, hv, h⟩ := Option.bind_eq_some_iff.1 h
       have HV := aS hv
       clear hv
       unfold edSw at h
       go_upto_region 12 with (first | (go_at_call 73; (with_reducible refine (clerestoryref1_between.calls e1 0 (wrap64 ((l0.length : Int) - 1)) true _ H1.out).mono ?_); rintro e w7 ⟨rfl, hdr⟩; have hbl := q0q hdr; clear hdr; have n_HB := aS (q02 HB.out hbl); have n_DK := aS (q01 DK.out hbl); have n_EK := aS (q01 EK.out hbl); clear hbl HB DK EK hd0 hd1 ha0 ha1 ha2 ha3 ha4 ha5 ha6 ha7 ha8 ha9 ha10 ha11; have HB := n_HB; have DK := n_DK; have EK := n_EK; clear n_HB n_DK n_EK; obtain ⟨hd0, hd1, -, -⟩ := bk2 DK.out; obtain ⟨ha0, ha1, ha2, ha3, ha4, ha5, ha6, ha7, ha8, ha9, ha10, ha11⟩ := bk12 EK.out) | (go_at_call 73; (with_reducible refine (clerestoryref1_between.calls e2 0 (wrap64 ((l0.length : Int) - 1)) true _ H2.out).mono ?_); rintro e w7 ⟨rfl, hdr⟩; have hbl := q0q hdr; clear hdr; have n_HB := aS (q02 HB.out hbl); have n_DK := aS (q01 DK.out hbl); have n_EK := aS (q01 EK.out hbl); clear hbl HB DK EK hd0 hd1 ha0 ha1 ha2 ha3 ha4 ha5 ha6 ha7 ha8 ha9 ha10 ha11; have HB := n_HB; have DK := n_DK; have EK := n_EK; clear n_HB n_DK n_EK; obtain ⟨hd0, hd1, -, -⟩ := bk2 DK.out; obtain ⟨ha0, ha1, ha2, ha3, ha4, ha5, ha6, ha7, ha8, ha9, ha10, ha11⟩ := bk12 EK.out))
       obtain ⟨ad, A2, c2, A5, c5, x_, x0, x1, x2, x3, x4, x5, l2, C2, l5, C5⟩ := at_T43 HC.out e1 x01.1 x01.2
       have HC2 := aS C2
       have HL2 := aS l2
       have HC5 := aS C5
       have HL5 := aS l5
       clear C2 C5 l2 l5
       subst x_
       replace x0 := (HB.out.cell (World.block_lt_of_cell? _ _ x0)).trans x0
       replace x1 := (HB.out.cell (World.block_lt_of_cell? _ _ x1)).trans x1
       replace x2 := (HB.out.cell (World.block_lt_of_cell? _ _ x2)).trans x2
       replace x3 := (HB.out.cell (World.block_lt_of_cell? _ _ x3)).trans x3
       replace x4 := (HB.out.cell (World.block_lt_of_cell? _ _ x4)).trans x4
       replace x5 := (HB.out.cell (World.block_lt_of_cell? _ _ x5)).trans x5
       have p0 := eq_true x01.1
       have p1 := eq_true x01.2
       clear x01
       go_upto_region 13 with ((with_reducible refine q07 (N := 6) rfl ?_); refine box1 rfl (N := 6) rfl (cs := #[.int .i64 0, .string (⟨#[]⟩ : ByteArray), .slice none 0 0, .string (⟨#[]⟩ : ByteArray), .int .i64 0, .slice none 0 0]) (t := 43) zh ?_; intro gx wx XK GX XS; obtain ⟨hv0, hv1, hv2, hv3, hv4, hv5, hvf0, hvf1, hvf2, hvf3, hvf4, hvf5⟩ := bk6 XK.out)
       have n_B := aS (ed_sixo (.int .i64 (q00 l0 e1).f0) (.string (q00 l0 e1).f1) (.slice A2 (q00 l0 e1).f2.length c2) (.string (q00 l0 e1).f3) (.int .i64 (q00 l0 e1).f4) (.slice A5 (q00 l0 e1).f5.length c5) XS.out GX.out XK.out)
       have n_X := aS n_B.out.2
       have hbl := n_B.out.1
       clear XK XS GX n_B hv0 hv1 hv2 hv3 hv4 hv5 hvf0 hvf1 hvf2 hvf3 hvf4 hvf5 x0 x1 x2 x3 x4 x5 p0 p1
       generalize ((((((wx.setCell ⟨gx, 0, none⟩ (.int .i64 (q00 l0 e1).f0)).setCell ⟨gx, 1, none⟩ (.string (q00 l0 e1).f1)).setCell ⟨gx, 2, none⟩ (.slice A2 (q00 l0 e1).f2.length c2)).setCell ⟨gx, 3, none⟩ (.string (q00 l0 e1).f3)).setCell ⟨gx, 4, none⟩ (.int .i64 (q00 l0 e1).f4)).setCell ⟨gx, 5, none⟩ (.slice A5 (q00 l0 e1).f5.length c5)) = wX at hbl n_X ⊢
       have n_HB := aS (q02 HB.out hbl)
       have n_DK := aS (q01 DK.out hbl)
       have n_EK := aS (q01 EK.out hbl)
       clear hbl HB DK EK hd0 hd1 ha0 ha1 ha2 ha3 ha4 ha5 ha6 ha7 ha8 ha9 ha10 ha11
       have HB := n_HB
       have DK := n_DK
       have EK := n_EK
       clear n_HB n_DK n_EK
       obtain ⟨hd0, hd1, -, -⟩ := bk2 DK.out
       obtain ⟨ha0, ha1, ha2, ha3, ha4, ha5, ha6, ha7, ha8, ha9, ha10, ha11⟩ := bk12 EK.out
       have XK := n_X
       clear n_X
       obtain ⟨hx0, hx1, hx2, hx3, hx4, hx5, -, -, -, -, -, -⟩ := bk6 XK.out
       go_upto_region 24 with (go_at_call 64; (with_reducible refine (clerestoryref1_AttrOf.calls k A2 c2 (q00 l0 e1).f2 e4 v has _ (Kd.C_below HC2.out HB.out) HL2.out HV.out).mono ?_); rintro e w7 ⟨rfl, hdr⟩; have hbl := q0q hdr; clear hdr; have n_HB := aS (q02 HB.out hbl); have n_DK := aS (q01 DK.out hbl); have n_EK := aS (q01 EK.out hbl); have n_XK := aS (q01 XK.out hbl); clear hbl HB DK EK XK hd0 hd1 ha0 ha1 ha2 ha3 ha4 ha5 ha6 ha7 ha8 ha9 ha10 ha11 hx0 hx1 hx2 hx3 hx4 hx5; have HB := n_HB; have DK := n_DK; have EK := n_EK; have XK := n_XK; clear n_HB n_DK n_EK n_XK; obtain ⟨hd0, hd1, -, -⟩ := bk2 DK.out; obtain ⟨ha0, ha1, ha2, ha3, ha4, ha5, ha6, ha7, ha8, ha9, ha10, ha11⟩ := bk12 EK.out; obtain ⟨hx0, hx1, hx2, hx3, hx4, hx5, -, -, -, -, -, -⟩ := bk6 XK.out)
       rw [if_neg F5.out.1, if_neg F5.out.2.1, if_neg F5.out.2.2.1, if_neg F5.out.2.2.2] at h
       by_cases y01 : 0 ≤ e2 ∧ e2 < (l0.length : Int)
       ·rw [if_pos y01] at h
        obtain ⟨ad2, B2, d2, B5, d5, z_, z0, z1, z2, z3, z4, z5, -, -, -, -⟩ := at_T43 HC.out e2 y01.1 y01.2
        obtain rfl : ad = ad2 := by injection z_
        clear z_
        replace z0 := (HB.out.cell (World.block_lt_of_cell? _ _ z0)).trans z0
        replace z1 := (HB.out.cell (World.block_lt_of_cell? _ _ z1)).trans z1
        replace z2 := (HB.out.cell (World.block_lt_of_cell? _ _ z2)).trans z2
        replace z3 := (HB.out.cell (World.block_lt_of_cell? _ _ z3)).trans z3
        replace z4 := (HB.out.cell (World.block_lt_of_cell? _ _ z4)).trans z4
        replace z5 := (HB.out.cell (World.block_lt_of_cell? _ _ z5)).trans z5
        have q0 := eq_true y01.1
        have q1 := eq_true y01.2
        clear y01
        go_upto_region 16 with ((with_reducible refine q07 (N := 9) rfl ?_); refine box1 rfl (N := 9) rfl (cs := #[.int .i64 0, .string (⟨#[]⟩ : ByteArray), .slice none 0 0, .string (⟨#[]⟩ : ByteArray), .int .i64 0, .slice none 0 0]) (t := 43) zh ?_; intro gy wy YK GY YS; obtain ⟨hv0, hv1, hv2, hv3, hv4, hv5, hvf0, hvf1, hvf2, hvf3, hvf4, hvf5⟩ := bk6 YK.out)
        have n_B := aS (ed_sixo (.int .i64 (q00 l0 e2).f0) (.string (q00 l0 e2).f1) (.slice B2 (q00 l0 e2).f2.length d2) (.string (q00 l0 e2).f3) (.int .i64 (q00 l0 e2).f4) (.slice B5 (q00 l0 e2).f5.length d5) YS.out GY.out YK.out)
        have n_Y := aS n_B.out.2
        have hbl := n_B.out.1
        clear YK YS GY n_B hv0 hv1 hv2 hv3 hv4 hv5 hvf0 hvf1 hvf2 hvf3 hvf4 hvf5 z0 z1 z2 z3 z4 z5 q0 q1
        generalize ((((((wy.setCell ⟨gy, 0, none⟩ (.int .i64 (q00 l0 e2).f0)).setCell ⟨gy, 1, none⟩ (.string (q00 l0 e2).f1)).setCell ⟨gy, 2, none⟩ (.slice B2 (q00 l0 e2).f2.length d2)).setCell ⟨gy, 3, none⟩ (.string (q00 l0 e2).f3)).setCell ⟨gy, 4, none⟩ (.int .i64 (q00 l0 e2).f4)).setCell ⟨gy, 5, none⟩ (.slice B5 (q00 l0 e2).f5.length d5)) = wY at hbl n_Y ⊢
        have n_HB := aS (q02 HB.out hbl)
        have n_DK := aS (q01 DK.out hbl)
        have n_EK := aS (q01 EK.out hbl)
        have n_XK := aS (q01 XK.out hbl)
        clear hbl HB DK EK XK hd0 hd1 ha0 ha1 ha2 ha3 ha4 ha5 ha6 ha7 ha8 ha9 ha10 ha11 hx0 hx1 hx2 hx3 hx4 hx5
        have HB := n_HB
        have DK := n_DK
        have EK := n_EK
        have XK := n_XK
        clear n_HB n_DK n_EK n_XK
        obtain ⟨hd0, hd1, -, -⟩ := bk2 DK.out
        obtain ⟨ha0, ha1, ha2, ha3, ha4, ha5, ha6, ha7, ha8, ha9, ha10, ha11⟩ := bk12 EK.out
        obtain ⟨hx0, hx1, hx2, hx3, hx4, hx5, -, -, -, -, -, -⟩ := bk6 XK.out
        have YK := n_Y
        clear n_Y
        obtain ⟨hy0, hy1, hy2, hy3, hy4, hy5, -, -, -, -, -, -⟩ := bk6 YK.out
        by_cases m1 : (q00 l0 e1).f0 > 2
        ·rw [if_pos m1] at h
         have m1b : decide ((q00 l0 e1).f0 > 2) = true := decide_eq_true m1
         obtain rfl := Option.some.inj h
         go_wp2
         go_ret
         exact ⟨rfl, (z8 HB.out)⟩
        ·rw [if_neg m1] at h
         have m1b : decide ((q00 l0 e1).f0 > 2) = false := decide_eq_false m1
         by_cases m2 : e2 = 0
         ·rw [if_pos m2] at h
          have m2b : (e2 == 0) = true := beq_iff_eq.mpr m2
          have m2n : (e2 != 0) = false := bne_eq_false_iff_eq.mpr m2
          skip
          clear m2
          obtain rfl := Option.some.inj h
          go_wp2
          go_ret
          exact ⟨rfl, (z8 HB.out)⟩
         ·rw [if_neg m2] at h
          have m2b : (e2 == 0) = false := beq_eq_false_iff_ne.mpr m2
          have m2n : (e2 != 0) = true := bne_iff_ne.mpr m2
          by_cases m3 : e1 = 0 ∧ (q00 l0 e2).f0 = 3
          ·rw [if_pos m3] at h
           have m3b : (e1 == 0) = true := beq_iff_eq.mpr m3.1
           have m4b : ((q00 l0 e2).f0 == 3) = true := beq_iff_eq.mpr m3.2
           clear m3
           obtain rfl := Option.some.inj h
           go_wp2
           go_ret
           exact ⟨rfl, (z8 HB.out)⟩
          ·rw [if_neg m3] at h
           have hm : ((e1 == 0) = true ∧ ((q00 l0 e2).f0 == 3) = false) ∨ (e1 == 0) = false := by
            by_cases m4 : e1 = 0
            ·exact .inl ⟨beq_iff_eq.mpr m4, beq_eq_false_iff_ne.mpr (fun e => m3 ⟨m4, e⟩)⟩
            ·exact .inr (beq_eq_false_iff_ne.mpr m4)
           clear m3
           rcases hm with ⟨m3b, m4b⟩ | m3b
           all_goals
            by_cases m5 : (q00 l0 e2).f4 ≥ 0
            ·rw [if_pos m5] at h
             have m5b : decide ((q00 l0 e2).f4 ≥ 0) = true := decide_eq_true m5
             obtain rfl := Option.some.inj h
             go_wp2
             go_ret
             exact ⟨rfl, (z8 HB.out)⟩
            ·rw [if_neg m5] at h
             have m5b : decide ((q00 l0 e2).f4 ≥ 0) = false := decide_eq_false m5
             obtain ⟨i, hi, h⟩ := Option.bind_eq_some_iff.1 h
             by_cases k1 : e3 = -1
             ·rw [if_pos k1] at hi
              have k1b : (e3 == -1) = true := beq_iff_eq.mpr k1
              have k1n : (e3 != -1) = false := bne_eq_false_iff_eq.mpr k1
              skip
              clear k1
              obtain rfl := Option.some.inj hi
              clear hi
              rw [if_neg (by decide)] at h
              obtain ⟨u, hu, h⟩ := Option.bind_eq_some_iff.1 h
              have HU := aS hu
              clear hu
              obtain rfl := Option.some.inj h
              cases u
              all_goals
               go_wp2_with (first | (go_at_call 74; (with_reducible refine (clerestoryref1_placeIn.calls k A5 c5 (q00 l0 e1).f5 e3 i _ (Kd.C_below HC5.out HB.out) HL5.out trivial).mono ?_); rintro e w7 ⟨rfl, hdr⟩; have hbl := q0q hdr; clear hdr; have n_HB := aS (q02 HB.out hbl); have n_DK := aS (q01 DK.out hbl); have n_EK := aS (q01 EK.out hbl); have n_XK := aS (q01 XK.out hbl); have n_YK := aS (q01 YK.out hbl); clear hbl HB DK EK XK YK hd0 hd1 ha0 ha1 ha2 ha3 ha4 ha5 ha6 ha7 ha8 ha9 ha10 ha11 hx0 hx1 hx2 hx3 hx4 hx5 hy0 hy1 hy2 hy3 hy4 hy5; have HB := n_HB; have DK := n_DK; have EK := n_EK; have XK := n_XK; have YK := n_YK; clear n_HB n_DK n_EK n_XK n_YK; obtain ⟨hd0, hd1, -, -⟩ := bk2 DK.out; obtain ⟨ha0, ha1, ha2, ha3, ha4, ha5, ha6, ha7, ha8, ha9, ha10, ha11⟩ := bk12 EK.out; obtain ⟨hx0, hx1, hx2, hx3, hx4, hx5, -, -, -, -, -, -⟩ := bk6 XK.out; obtain ⟨hy0, hy1, hy2, hy3, hy4, hy5, -, -, -, -, -, -⟩ := bk6 YK.out) | (go_at_call 26; (with_reducible refine (clerestoryref1_Under.calls k (some ad) c0 l0 q e1 e2 _ _ (Kd.C_below HC.out HB.out) HL.out HU.out).mono ?_); rintro e w7 ⟨rfl, hbl⟩; have n_HB := aS (q02 HB.out hbl); clear hbl HB ; have HB := n_HB; clear n_HB))
               go_ret
               exact ⟨rfl, (z8 HB.out)⟩
             ·rw [if_neg k1] at hi
              have k1b : (e3 == -1) = false := beq_eq_false_iff_ne.mpr k1
              have k1n : (e3 != -1) = true := bne_iff_ne.mpr k1
              have HI := aS hi
              clear hi
              by_cases ki : i < 0
              ·rw [if_pos ki] at h
               have kib : decide (i < 0) = true := decide_eq_true ki
               obtain rfl := Option.some.inj h
               go_wp2_with (go_at_call 74; (with_reducible refine (clerestoryref1_placeIn.calls k A5 c5 (q00 l0 e1).f5 e3 i _ (Kd.C_below HC5.out HB.out) HL5.out HI.out).mono ?_); rintro e w7 ⟨rfl, hdr⟩; have hbl := q0q hdr; clear hdr; have n_HB := aS (q02 HB.out hbl); clear hbl HB ; have HB := n_HB; clear n_HB)
               go_ret
               exact ⟨rfl, (z8 HB.out)⟩
              ·rw [if_neg ki] at h
               have kib : decide (i < 0) = false := decide_eq_false ki
               obtain ⟨u, hu, h⟩ := Option.bind_eq_some_iff.1 h
               have HU := aS hu
               clear hu
               obtain rfl := Option.some.inj h
               cases u
               all_goals
                go_wp2_with (first | (go_at_call 74; (with_reducible refine (clerestoryref1_placeIn.calls k A5 c5 (q00 l0 e1).f5 e3 i _ (Kd.C_below HC5.out HB.out) HL5.out HI.out).mono ?_); rintro e w7 ⟨rfl, hdr⟩; have hbl := q0q hdr; clear hdr; have n_HB := aS (q02 HB.out hbl); have n_DK := aS (q01 DK.out hbl); have n_EK := aS (q01 EK.out hbl); have n_XK := aS (q01 XK.out hbl); have n_YK := aS (q01 YK.out hbl); clear hbl HB DK EK XK YK hd0 hd1 ha0 ha1 ha2 ha3 ha4 ha5 ha6 ha7 ha8 ha9 ha10 ha11 hx0 hx1 hx2 hx3 hx4 hx5 hy0 hy1 hy2 hy3 hy4 hy5; have HB := n_HB; have DK := n_DK; have EK := n_EK; have XK := n_XK; have YK := n_YK; clear n_HB n_DK n_EK n_XK n_YK; obtain ⟨hd0, hd1, -, -⟩ := bk2 DK.out; obtain ⟨ha0, ha1, ha2, ha3, ha4, ha5, ha6, ha7, ha8, ha9, ha10, ha11⟩ := bk12 EK.out; obtain ⟨hx0, hx1, hx2, hx3, hx4, hx5, -, -, -, -, -, -⟩ := bk6 XK.out; obtain ⟨hy0, hy1, hy2, hy3, hy4, hy5, -, -, -, -, -, -⟩ := bk6 YK.out) | (go_at_call 26; (with_reducible refine (clerestoryref1_Under.calls k (some ad) c0 l0 q e1 e2 _ _ (Kd.C_below HC.out HB.out) HL.out HU.out).mono ?_); rintro e w7 ⟨rfl, hbl⟩; have n_HB := aS (q02 HB.out hbl); clear hbl HB ; have HB := n_HB; clear n_HB))
                go_ret
                exact ⟨rfl, (z8 HB.out)⟩
       ·rw [if_neg y01] at h
        exact absurd h (by simp)
      ·rw [if_neg x01] at h
       exact absurd h (by simp)
    ·rw [if_neg s5] at h2
     have s5b : (e0 == 5) = false := beq_eq_false_iff_ne.mpr s5
     have s5n : (e0 != 5) = true := bne_iff_ne.mpr s5
     obtain rfl := Option.some.inj h2
     clear h2
     rw [if_pos rfl] at h
     by_cases x01 : 0 ≤ e1 ∧ e1 < (l0.length : Int)
     ·rw [if_pos x01] at h
      obtain ⟨⟨v, has⟩, hv, h⟩ := Option.bind_eq_some_iff.1 h
      have HV := aS hv
      clear hv
      unfold edSw at h
      go_upto_region 12 with (first | (go_at_call 73; (with_reducible refine (clerestoryref1_between.calls e1 0 (wrap64 ((l0.length : Int) - 1)) true _ H1.out).mono ?_); rintro e w7 ⟨rfl, hdr⟩; have hbl := q0q hdr; clear hdr; have n_HB := aS (q02 HB.out hbl); have n_DK := aS (q01 DK.out hbl); have n_EK := aS (q01 EK.out hbl); clear hbl HB DK EK hd0 hd1 ha0 ha1 ha2 ha3 ha4 ha5 ha6 ha7 ha8 ha9 ha10 ha11; have HB := n_HB; have DK := n_DK; have EK := n_EK; clear n_HB n_DK n_EK; obtain ⟨hd0, hd1, -, -⟩ := bk2 DK.out; obtain ⟨ha0, ha1, ha2, ha3, ha4, ha5, ha6, ha7, ha8, ha9, ha10, ha11⟩ := bk12 EK.out))
      obtain ⟨ad, A2, c2, A5, c5, x_, x0, x1, x2, x3, x4, x5, l2, C2, l5, C5⟩ := at_T43 HC.out e1 x01.1 x01.2
      have HC2 := aS C2
      have HL2 := aS l2
      have HC5 := aS C5
      have HL5 := aS l5
      clear C2 C5 l2 l5
      subst x_
      replace x0 := (HB.out.cell (World.block_lt_of_cell? _ _ x0)).trans x0
      replace x1 := (HB.out.cell (World.block_lt_of_cell? _ _ x1)).trans x1
      replace x2 := (HB.out.cell (World.block_lt_of_cell? _ _ x2)).trans x2
      replace x3 := (HB.out.cell (World.block_lt_of_cell? _ _ x3)).trans x3
      replace x4 := (HB.out.cell (World.block_lt_of_cell? _ _ x4)).trans x4
      replace x5 := (HB.out.cell (World.block_lt_of_cell? _ _ x5)).trans x5
      have p0 := eq_true x01.1
      have p1 := eq_true x01.2
      clear x01
      go_upto_region 13 with ((with_reducible refine q07 (N := 6) rfl ?_); refine box1 rfl (N := 6) rfl (cs := #[.int .i64 0, .string (⟨#[]⟩ : ByteArray), .slice none 0 0, .string (⟨#[]⟩ : ByteArray), .int .i64 0, .slice none 0 0]) (t := 43) zh ?_; intro gx wx XK GX XS; obtain ⟨hv0, hv1, hv2, hv3, hv4, hv5, hvf0, hvf1, hvf2, hvf3, hvf4, hvf5⟩ := bk6 XK.out)
      have n_B := aS (ed_sixo (.int .i64 (q00 l0 e1).f0) (.string (q00 l0 e1).f1) (.slice A2 (q00 l0 e1).f2.length c2) (.string (q00 l0 e1).f3) (.int .i64 (q00 l0 e1).f4) (.slice A5 (q00 l0 e1).f5.length c5) XS.out GX.out XK.out)
      have n_X := aS n_B.out.2
      have hbl := n_B.out.1
      clear XK XS GX n_B hv0 hv1 hv2 hv3 hv4 hv5 hvf0 hvf1 hvf2 hvf3 hvf4 hvf5 x0 x1 x2 x3 x4 x5 p0 p1
      generalize ((((((wx.setCell ⟨gx, 0, none⟩ (.int .i64 (q00 l0 e1).f0)).setCell ⟨gx, 1, none⟩ (.string (q00 l0 e1).f1)).setCell ⟨gx, 2, none⟩ (.slice A2 (q00 l0 e1).f2.length c2)).setCell ⟨gx, 3, none⟩ (.string (q00 l0 e1).f3)).setCell ⟨gx, 4, none⟩ (.int .i64 (q00 l0 e1).f4)).setCell ⟨gx, 5, none⟩ (.slice A5 (q00 l0 e1).f5.length c5)) = wX at hbl n_X ⊢
      have n_HB := aS (q02 HB.out hbl)
      have n_DK := aS (q01 DK.out hbl)
      have n_EK := aS (q01 EK.out hbl)
      clear hbl HB DK EK hd0 hd1 ha0 ha1 ha2 ha3 ha4 ha5 ha6 ha7 ha8 ha9 ha10 ha11
      have HB := n_HB
      have DK := n_DK
      have EK := n_EK
      clear n_HB n_DK n_EK
      obtain ⟨hd0, hd1, -, -⟩ := bk2 DK.out
      obtain ⟨ha0, ha1, ha2, ha3, ha4, ha5, ha6, ha7, ha8, ha9, ha10, ha11⟩ := bk12 EK.out
      have XK := n_X
      clear n_X
      obtain ⟨hx0, hx1, hx2, hx3, hx4, hx5, -, -, -, -, -, -⟩ := bk6 XK.out
      go_upto_region 24 with (go_at_call 64; (with_reducible refine (clerestoryref1_AttrOf.calls k A2 c2 (q00 l0 e1).f2 e4 v has _ (Kd.C_below HC2.out HB.out) HL2.out HV.out).mono ?_); rintro e w7 ⟨rfl, hdr⟩; have hbl := q0q hdr; clear hdr; have n_HB := aS (q02 HB.out hbl); have n_DK := aS (q01 DK.out hbl); have n_EK := aS (q01 EK.out hbl); have n_XK := aS (q01 XK.out hbl); clear hbl HB DK EK XK hd0 hd1 ha0 ha1 ha2 ha3 ha4 ha5 ha6 ha7 ha8 ha9 ha10 ha11 hx0 hx1 hx2 hx3 hx4 hx5; have HB := n_HB; have DK := n_DK; have EK := n_EK; have XK := n_XK; clear n_HB n_DK n_EK n_XK; obtain ⟨hd0, hd1, -, -⟩ := bk2 DK.out; obtain ⟨ha0, ha1, ha2, ha3, ha4, ha5, ha6, ha7, ha8, ha9, ha10, ha11⟩ := bk12 EK.out; obtain ⟨hx0, hx1, hx2, hx3, hx4, hx5, -, -, -, -, -, -⟩ := bk6 XK.out)
      by_cases s1 : e0 = 1
      ·rw [if_pos s1] at h
       have s1b : (e0 == 1) = true := beq_iff_eq.mpr s1
       have s1n : (e0 != 1) = false := bne_eq_false_iff_eq.mpr s1
       skip
       clear s1
       by_cases k2 : (q00 l0 e1).f0 = 2
       ·rw [if_pos k2] at h
        have k2b : ((q00 l0 e1).f0 == 2) = true := beq_iff_eq.mpr k2
        have k2n : ((q00 l0 e1).f0 != 2) = false := bne_eq_false_iff_eq.mpr k2
        skip
        clear k2
        obtain ⟨b, hb, h⟩ := Option.bind_eq_some_iff.1 h
        have HN := aS hb
        clear hb
        obtain rfl := Option.some.inj h
        cases b
        all_goals
         go_wp2_with (go_at_call 120; (with_reducible refine (clerestoryref1_domName.calls k e4 false _ _ HN.out).mono ?_); rintro e w7 ⟨rfl, hdr⟩; have hbl := q0q hdr; clear hdr; have n_HB := aS (q02 HB.out hbl); have n_XK := aS (q01 XK.out hbl); clear hbl HB XK hx0 hx1 hx2 hx3 hx4 hx5; have HB := n_HB; have XK := n_XK; clear n_HB n_XK; obtain ⟨hx0, hx1, hx2, hx3, hx4, hx5, -, -, -, -, -, -⟩ := bk6 XK.out)
         go_ret
         exact ⟨rfl, (z8 HB.out)⟩
       ·rw [if_neg k2] at h
        have k2b : ((q00 l0 e1).f0 == 2) = false := beq_eq_false_iff_ne.mpr k2
        have k2n : ((q00 l0 e1).f0 != 2) = true := bne_iff_ne.mpr k2
        obtain rfl := Option.some.inj h
        go_wp2
        go_ret
        exact ⟨rfl, (z8 HB.out)⟩
      ·rw [if_neg s1] at h
       have s1b : (e0 == 1) = false := beq_eq_false_iff_ne.mpr s1
       have s1n : (e0 != 1) = true := bne_iff_ne.mpr s1
       by_cases s2 : e0 = 2
       ·rw [if_pos s2] at h
        have s2b : (e0 == 2) = true := beq_iff_eq.mpr s2
        have s2n : (e0 != 2) = false := bne_eq_false_iff_eq.mpr s2
        skip
        clear s2
        by_cases k2 : (q00 l0 e1).f0 = 2
        ·rw [if_pos k2] at h
         have k2b : ((q00 l0 e1).f0 == 2) = true := beq_iff_eq.mpr k2
         have k2n : ((q00 l0 e1).f0 != 2) = false := bne_eq_false_iff_eq.mpr k2
         skip
         clear k2
         obtain rfl := Option.some.inj h
         cases has
         all_goals
          go_wp2
          go_ret
          exact ⟨rfl, (z8 HB.out)⟩
        ·rw [if_neg k2] at h
         have k2b : ((q00 l0 e1).f0 == 2) = false := beq_eq_false_iff_ne.mpr k2
         have k2n : ((q00 l0 e1).f0 != 2) = true := bne_iff_ne.mpr k2
         obtain rfl := Option.some.inj h
         go_wp2
         go_ret
         exact ⟨rfl, (z8 HB.out)⟩
       ·rw [if_neg s2] at h
        have s2b : (e0 == 2) = false := beq_eq_false_iff_ne.mpr s2
        have s2n : (e0 != 2) = true := bne_iff_ne.mpr s2
        by_cases s3 : e0 = 3
        ·rw [if_pos s3] at h
         have s3b : (e0 == 3) = true := beq_iff_eq.mpr s3
         have s3n : (e0 != 3) = false := bne_eq_false_iff_eq.mpr s3
         skip
         clear s3
         by_cases k3 : (q00 l0 e1).f0 = 3
         ·rw [if_pos k3] at h
          have k3b : ((q00 l0 e1).f0 == 3) = true := beq_iff_eq.mpr k3
          have k3n : ((q00 l0 e1).f0 != 3) = false := bne_eq_false_iff_eq.mpr k3
          skip
          clear k3
          obtain rfl := Option.some.inj h
          go_wp2
          go_ret
          exact ⟨rfl, (z8 HB.out)⟩
         ·rw [if_neg k3] at h
          have k3b : ((q00 l0 e1).f0 == 3) = false := beq_eq_false_iff_ne.mpr k3
          have k3n : ((q00 l0 e1).f0 != 3) = true := bne_iff_ne.mpr k3
          by_cases k4 : (q00 l0 e1).f0 = 4
          ·rw [if_pos k4] at h
           have k4b : ((q00 l0 e1).f0 == 4) = true := beq_iff_eq.mpr k4
           have k4n : ((q00 l0 e1).f0 != 4) = false := bne_eq_false_iff_eq.mpr k4
           skip
           clear k4
           obtain rfl := Option.some.inj h
           go_wp2
           go_ret
           exact ⟨rfl, (z8 HB.out)⟩
          ·rw [if_neg k4] at h
           have k4b : ((q00 l0 e1).f0 == 4) = false := beq_eq_false_iff_ne.mpr k4
           have k4n : ((q00 l0 e1).f0 != 4) = true := bne_iff_ne.mpr k4
           obtain rfl := Option.some.inj h
           go_wp2
           go_ret
           exact ⟨rfl, (z8 HB.out)⟩
        ·rw [if_neg s3] at h
         have s3b : (e0 == 3) = false := beq_eq_false_iff_ne.mpr s3
         have s3n : (e0 != 3) = true := bne_iff_ne.mpr s3
         by_cases s6 : e0 = 6
         ·rw [if_pos s6] at h
          have s6b : (e0 == 6) = true := beq_iff_eq.mpr s6
          have s6n : (e0 != 6) = false := bne_eq_false_iff_eq.mpr s6
          skip
          clear s6
          by_cases k0 : e1 = 0
          ·rw [if_pos k0] at h
           have k0b : (e1 == 0) = true := beq_iff_eq.mpr k0
           have k0n : (e1 != 0) = false := bne_eq_false_iff_eq.mpr k0
           skip
           clear k0
           obtain rfl := Option.some.inj h
           go_wp2
           go_ret
           exact ⟨rfl, (z8 HB.out)⟩
          ·rw [if_neg k0] at h
           have k0b : (e1 == 0) = false := beq_eq_false_iff_ne.mpr k0
           have k0n : (e1 != 0) = true := bne_iff_ne.mpr k0
           by_cases kp : (q00 l0 e1).f4 < 0
           ·rw [if_pos kp] at h
            have kpb : decide ((q00 l0 e1).f4 < 0) = true := decide_eq_true kp
            obtain rfl := Option.some.inj h
            go_wp2
            go_ret
            exact ⟨rfl, (z8 HB.out)⟩
           ·rw [if_neg kp] at h
            have kpb : decide ((q00 l0 e1).f4 < 0) = false := decide_eq_false kp
            obtain rfl := Option.some.inj h
            go_wp2
            go_ret
            exact ⟨rfl, (z8 HB.out)⟩
         ·rw [if_neg s6] at h
          have s6b : (e0 == 6) = false := beq_eq_false_iff_ne.mpr s6
          have s6n : (e0 != 6) = true := bne_iff_ne.mpr s6
          exfalso
          have := HT6.out
          omega
     ·rw [if_neg x01] at h
      exact absurd h (by simp)
def clerestoryref1_copyDoc.l0 : Nat → Int → List (S43) → Bool → List (S43) → Bool → Option ((List (S43)) × Bool)
 | 0, _, _, _, _, _ => none
 | k + 1, x4, x250000, x250001, x252000, x252001 => if x4 < (x250000.length : Int) then (if 0 ≤ x4 then ((some (([] : List (S122)) : List (S122))).bind fun y254 => (if y254.length + ((q00 x250000 x4).f2).length < 4398046511104 then ((some (([] : List Int) : List Int)).bind fun y260 => (if y260.length + ((q00 x250000 x4).f5).length < 17592186044416 then (if x252000.length < 1466015503701 then (clerestoryref1_copyDoc.l0 k (wrap64 (x4 + 1)) x250000 x250001 (x252000 ++ [(⟨(q00 x250000 x4).f0, (q00 x250000 x4).f1, (y254 ++ ((q00 x250000 x4).f2)), (q00 x250000 x4).f3, (q00 x250000 x4).f4, (y260 ++ ((q00 x250000 x4).f5))⟩ : S43)]) x252001) else (none)) else (none))) else (none))) else (none)) else (some (x252000, x252001))
def clerestoryref1_copyDoc.f (k : Nat) (l0_0 : List (S43)) (a0_1 : Bool) : Option ((List (S43)) × Bool) := clerestoryref1_copyDoc.l0 k 0 l0_0 a0_1 ([] : List (S43)) a0_1
theorem clerestoryref1_copyDoc.mono_l : ∀ k, (∀ y0 y1 y2 y3 y4, LeO (clerestoryref1_copyDoc.l0 k y0 y1 y2 y3 y4) (clerestoryref1_copyDoc.l0 (k + 1) y0 y1 y2 y3 y4))
 | 0 => fun _ _ _ _ _ r h => by simp [clerestoryref1_copyDoc.l0] at h
 | k + 1 => by
  have ih0 := clerestoryref1_copyDoc.mono_l k
  ·intro y0 y1 y2 y3 y4
   unfold clerestoryref1_copyDoc.l0
   repeat' first | with_reducible first | apply ih0 | exact LeO.refl _ | exact LeO.none _ | refine LeO.ite ?_ ?_ | refine LeO.bind ?_ (fun _ => ?_) | (first | apply ih0 | exact LeO.none _ | refine LeO.ite ?_ ?_ | refine LeO.bind ?_ (fun _ => ?_))
theorem clerestoryref1_copyDoc.mono : ∀ a0 a1 k, LeO (clerestoryref1_copyDoc.f k a0 a1) (clerestoryref1_copyDoc.f (k + 1) a0 a1) := by
 intro a0 a1 k
 have ih0 := clerestoryref1_copyDoc.mono_l k
 unfold clerestoryref1_copyDoc.f
 repeat' first | with_reducible first | apply ih0 | exact LeO.refl _ | exact LeO.none _ | refine LeO.ite ?_ ?_ | refine LeO.bind ?_ (fun _ => ?_) | (first | apply ih0 | exact LeO.none _ | refine LeO.ite ?_ ?_ | refine LeO.bind ?_ (fun _ => ?_))
set_option maxHeartbeats 8000000 in
set_option maxRecDepth 100000 in
theorem clerestoryref1_copyDoc.calls (k : Nat) (A0_0 : Option Addr) (c0_0 : Nat) (l0_0 : List (S43)) (a0_1 : Bool) (r1 : List (S43)) (r2 : Bool) (w : World) (hr0_0 : Kd.C k43 w A0_0 l0_0.length l0_0) (hc0_0 : l0_0.length ≤ c0_0) (h : clerestoryref1_copyDoc.f k l0_0 a0_1 = some (r1, r2)) :
 Calls Tryd.prog 107 #[.agg #[.slice A0_0 l0_0.length c0_0, .bool a0_1]] w fun e w' => ∃ v0_ : Value, e = .returned (.agg #[v0_, .bool r2]) ∧ Kd.S k43 43 w' w.heap.size (fun _ => True) v0_ r1 ∧ Below w.heap.size w w' := by
 have hu24 := Tryd.underlying24
 have hu43 := Tryd.underlying43
 have HR0_0 := aS hr0_0
 have HC0_0 := aS hc0_0
 clear hr0_0 hc0_0
 have HB := aS (Below.refl w.heap.size w)
 have H := h; clear h; unfold clerestoryref1_copyDoc.f at H
 have H' := aS H
 clear H
 go_enter Tryd.func107, Tryd.ntmps107
 go_wp2_with (first | ((with_reducible refine q07 (N := 1) rfl ?_); refine box0 rfl (N := 1) rfl (cs := #[.slice A0_0 l0_0.length c0_0, .bool a0_1]) (t := 24) zh (z7 HB.out) ?_; clear HB; intro gb249 w2 BK249 GW249 HB; have GE249 := GW249) | ((with_reducible refine q07 (N := 2) rfl ?_); refine q0i ?hg (N := 2) ?hd (cs := #[.slice none 0 0, .bool false]) (t := 24) ?hr ?_; (case hd => rfl); (case hg => rfl); (case hr => first | (go_simp; done) | (go_simp; rfl)); intro gb250 hg w3 hbox hb; have n0_ := aS (q01 (g := gb249) (o := .cells #[.slice A0_0 l0_0.length c0_0, .bool a0_1] 24 (0, 0)) (za BK249.out) hb); have n1_ := aS (q02 (z6 HB.out GE249.out) hb); have n2_ := aS (hbox); have n3_ := aS ((by rw [hg]; exact (q03 (z6 HB.out GE249.out)) : w.heap.size ≤ gb250)); have n4_ := aS ((by rw [hg]; exact (q03 (z6 HB.out GE249.out)) : w.heap.size ≤ gb250)); have n5_ := aS ((by rw [hg]; exact Nat.ne_of_lt (q09 (g := gb249) (o := .cells #[.slice A0_0 l0_0.length c0_0, .bool a0_1] 24 (0, 0)) (za BK249.out)) : gb249 ≠ gb250)); have n6_ := aS ((by rw [hg]; exact Nat.ne_of_gt (q09 (g := gb249) (o := .cells #[.slice A0_0 l0_0.length c0_0, .bool a0_1] 24 (0, 0)) (za BK249.out)) : gb250 ≠ gb249)); clear BK249; clear HB; have BK249 := n0_; have HB := n1_; have BK250 := n2_; have GW250 := n3_; have GE250 := n4_; have NB249_250 := n5_; have NB250_249 := n6_; clear n0_ n1_ n2_ n3_ n4_ n5_ n6_; clear hb hbox hg; have hnb4 := NB249_250.out; have hnc4 := NB250_249.out; obtain ⟨hcz5_0, hcz5_1, hfz5_0, hfz5_1⟩ := bk2 BK249.out) | ((with_reducible refine q07 (N := 3) rfl ?_); refine q0i ?hg (N := 3) ?hd (cs := #[.slice none 0 0, .bool false]) (t := 24) ?hr ?_; (case hd => rfl); (case hg => rfl); (case hr => first | (go_simp; done) | (go_simp; rfl)); intro gb251 hg w6 hbox hb; have n0_ := aS (q01 (g := gb249) (o := .cells #[.slice A0_0 l0_0.length c0_0, .bool a0_1] 24 (0, 0)) (za BK249.out) hb); have n1_ := aS (q01 (g := gb250) (o := .cells #[.slice none 0 0, .bool false] 24 (0, 0)) (za BK250.out) hb); have n2_ := aS (q02 (by repeat (first | (with_reducible first | exact HB.out | apply bA | apply bN | apply bD | refine bS ?_ GE249.out | refine bS ?_ GE250.out) | exact HB.out)) hb); have n3_ := aS (hbox); have n4_ := aS ((by rw [hg]; exact (q03 (by repeat (first | (with_reducible first | exact HB.out | apply bA | apply bN | apply bD | refine bS ?_ GE249.out | refine bS ?_ GE250.out) | exact HB.out))) : w.heap.size ≤ gb251)); have n5_ := aS ((by rw [hg]; exact (q03 (by repeat (first | (with_reducible first | exact HB.out | apply bA | apply bN | apply bD | refine bS ?_ GE249.out | refine bS ?_ GE250.out) | exact HB.out))) : w.heap.size ≤ gb251)); have n6_ := aS ((by rw [hg]; exact Nat.ne_of_lt (q09 (g := gb249) (o := .cells #[.slice A0_0 l0_0.length c0_0, .bool a0_1] 24 (0, 0)) (za BK249.out)) : gb249 ≠ gb251)); have n7_ := aS ((by rw [hg]; exact Nat.ne_of_gt (q09 (g := gb249) (o := .cells #[.slice A0_0 l0_0.length c0_0, .bool a0_1] 24 (0, 0)) (za BK249.out)) : gb251 ≠ gb249)); have n8_ := aS ((by rw [hg]; exact Nat.ne_of_lt (q09 (g := gb250) (o := .cells #[.slice none 0 0, .bool false] 24 (0, 0)) (za BK250.out)) : gb250 ≠ gb251)); have n9_ := aS ((by rw [hg]; exact Nat.ne_of_gt (q09 (g := gb250) (o := .cells #[.slice none 0 0, .bool false] 24 (0, 0)) (za BK250.out)) : gb251 ≠ gb250)); clear BK249; clear BK250; clear HB; have BK249 := n0_; have BK250 := n1_; have HB := n2_; have BK251 := n3_; have GW251 := n4_; have GE251 := n5_; have NB249_251 := n6_; have NB251_249 := n7_; have NB250_251 := n8_; have NB251_250 := n9_; clear n0_ n1_ n2_ n3_ n4_ n5_ n6_ n7_ n8_ n9_; clear hb hbox hg; have hnb7 := NB251_249.out; have hnc7 := NB249_251.out; have hnb8 := NB251_250.out; have hnc8 := NB250_251.out; obtain ⟨hcz9_0, hcz9_1, hfz9_0, hfz9_1⟩ := bk2 BK251.out))
 go_loopg [4] k (fun kq v4 w' => ∃ (x4_1 : Int) (x252000_1 : List (S43)) (u252000 : Value), v4 = .int .i64 x4_1 ∧ Aside0 (clerestoryref1_copyDoc.l0 kq x4_1 l0_0 a0_1 x252000_1 a0_1 = some (r1, r2)) ∧ Aside0 (kq ≤ k) ∧ Aside0 (Kd.S k43 43 w' w.heap.size (fun _ => True) u252000 x252000_1) ∧ Aside0 (w'.heap[gb249]? = some (.cells #[(.slice A0_0 l0_0.length c0_0), .bool a0_1] 24 (0, 0))) ∧ Aside0 (w'.heap[gb250]? = some (.cells #[(.slice none 0 0), .bool false] 24 (0, 0))) ∧ Aside0 (w'.heap[gb251]? = some (.cells #[u252000, .bool a0_1] 24 (0, 0))) ∧ Aside0 (Below w.heap.size w w'))
 case atStart => exact ⟨(0), (([] : List (S43))), (.slice none 0 0), zi, H', ⟨Nat.le_refl _⟩, ⟨by first | exact Kd.S_nil _ _ _ _ _ | exact Kd.N_nil _ _ _ _ _ | exact Kd.V_nil _ _ _ _ _ | exact Kd.Q_nil _ _ _ _ _ | exact Kd.R_nil _ _ _ _ _⟩, ⟨by (with_reducible repeat (first | refine kN ?_ _ | refine kD ?_ | refine kA ?_ _)); refine q0b ?_ NB249_251.out _; (with_reducible repeat (first | refine kN ?_ _ | refine kD ?_ | refine kA ?_ _)); refine q0b ?_ NB249_251.out _; (with_reducible repeat (first | refine kN ?_ _ | refine kD ?_ | refine kA ?_ _)); exact BK249.out⟩, ⟨by (with_reducible repeat (first | refine kN ?_ _ | refine kD ?_ | refine kA ?_ _)); refine q0b ?_ NB250_251.out _; (with_reducible repeat (first | refine kN ?_ _ | refine kD ?_ | refine kA ?_ _)); refine q0b ?_ NB250_251.out _; (with_reducible repeat (first | refine kN ?_ _ | refine kD ?_ | refine kA ?_ _)); exact BK250.out⟩, ⟨by (with_reducible repeat (first | refine kN ?_ _ | refine kD ?_ | refine kA ?_ _)); refine q0e (cs := #[.slice none 0 0, .bool false]) ?_ 1 _ rfl; (with_reducible repeat (first | refine kN ?_ _ | refine kD ?_ | refine kA ?_ _)); refine q0e (cs := #[.slice none 0 0, .bool false]) ?_ 0 _ rfl; (with_reducible repeat (first | refine kN ?_ _ | refine kD ?_ | refine kA ?_ _)); exact BK251.out⟩, ⟨by repeat (first | (with_reducible first | exact HB.out | apply bA | apply bN | apply bD | refine bS ?_ GE249.out | refine bS ?_ GE250.out | refine bS ?_ GE251.out) | exact HB.out)⟩⟩
 case round =>
  clear H'
  obtain ⟨x4_1, x252000_1, u252000, rfl, HA, HK1, HO_252000, BK249, BK250, BK251, HB⟩ := hrel
  cases gk with
  | zero => exact absurd HA.out (by simp [clerestoryref1_copyDoc.l0])
  | succ k1 =>
   have H := HA.out
   clear HA
   simp only [clerestoryref1_copyDoc.l0] at H
   refine iT H ?p10 ?n10 <;> clear H
   case' p10 =>
    intro c10b0 H
    refine iLp H ?_; clear H; intro c11b0 H
    obtain ⟨y254, hy254⟩ : ∃ y_ : List (S122), y_ = (([] : List (S122))) := ⟨_, rfl⟩
    replace H : (if y254.length + ((q00 l0_0 x4_1).f2).length < 4398046511104 then ((some (([] : List Int) : List Int)).bind fun y260 => (if y260.length + ((q00 l0_0 x4_1).f5).length < 17592186044416 then (if x252000_1.length < 1466015503701 then (clerestoryref1_copyDoc.l0 k1 (wrap64 (x4_1 + 1)) l0_0 a0_1 (x252000_1 ++ [(⟨(q00 l0_0 x4_1).f0, (q00 l0_0 x4_1).f1, (y254 ++ ((q00 l0_0 x4_1).f2)), (q00 l0_0 x4_1).f3, (q00 l0_0 x4_1).f4, (y260 ++ ((q00 l0_0 x4_1).f5))⟩ : S43)]) a0_1) else (none)) else (none))) else (none)) = some (r1, r2) := by first | (rw [hy254]; with_reducible exact H) | (have H2_ := (Option.bind_some _ _).symm.trans H; rw [hy254]; with_reducible exact H2_) | (have H2_ := (Option.bind_some _ _).symm.trans H; with_reducible exact H2_) | with_reducible exact H | (rw [hy254]; exact H) | exact H
    have Ny254 := aS hy254
    clear hy254
    refine iGp H ?_; clear H; intro c12 H
    have LMc12 := aS c12
    clear c12
    obtain ⟨y257, hy257⟩ : ∃ y_ : List (S122), y_ = (y254 ++ ((q00 l0_0 x4_1).f2)) := ⟨_, rfl⟩
    replace H : ((some (([] : List Int) : List Int)).bind fun y260 => (if y260.length + ((q00 l0_0 x4_1).f5).length < 17592186044416 then (if x252000_1.length < 1466015503701 then (clerestoryref1_copyDoc.l0 k1 (wrap64 (x4_1 + 1)) l0_0 a0_1 (x252000_1 ++ [(⟨(q00 l0_0 x4_1).f0, (q00 l0_0 x4_1).f1, y257, (q00 l0_0 x4_1).f3, (q00 l0_0 x4_1).f4, (y260 ++ ((q00 l0_0 x4_1).f5))⟩ : S43)]) a0_1) else (none)) else (none))) = some (r1, r2) := by first | (rw [hy257]; with_reducible exact H) | (have H2_ := (Option.bind_some _ _).symm.trans H; rw [hy257]; with_reducible exact H2_) | (have H2_ := (Option.bind_some _ _).symm.trans H; with_reducible exact H2_) | with_reducible exact H | (rw [hy257]; exact H) | exact H
    have Ny257 := aS hy257
    clear hy257
    obtain ⟨y260, hy260⟩ : ∃ y_ : List Int, y_ = (([] : List Int)) := ⟨_, rfl⟩
    replace H : (if y260.length + ((q00 l0_0 x4_1).f5).length < 17592186044416 then (if x252000_1.length < 1466015503701 then (clerestoryref1_copyDoc.l0 k1 (wrap64 (x4_1 + 1)) l0_0 a0_1 (x252000_1 ++ [(⟨(q00 l0_0 x4_1).f0, (q00 l0_0 x4_1).f1, y257, (q00 l0_0 x4_1).f3, (q00 l0_0 x4_1).f4, (y260 ++ ((q00 l0_0 x4_1).f5))⟩ : S43)]) a0_1) else (none)) else (none)) = some (r1, r2) := by first | (rw [hy260]; with_reducible exact H) | (have H2_ := (Option.bind_some _ _).symm.trans H; rw [hy260]; with_reducible exact H2_) | (have H2_ := (Option.bind_some _ _).symm.trans H; with_reducible exact H2_) | with_reducible exact H | (rw [hy260]; exact H) | exact H
    have Ny260 := aS hy260
    clear hy260
    refine iGp H ?_; clear H; intro c13 H
    have LMc13 := aS c13
    clear c13
    obtain ⟨y263, hy263⟩ : ∃ y_ : List Int, y_ = (y260 ++ ((q00 l0_0 x4_1).f5)) := ⟨_, rfl⟩
    replace H : (if x252000_1.length < 1466015503701 then (clerestoryref1_copyDoc.l0 k1 (wrap64 (x4_1 + 1)) l0_0 a0_1 (x252000_1 ++ [(⟨(q00 l0_0 x4_1).f0, (q00 l0_0 x4_1).f1, y257, (q00 l0_0 x4_1).f3, (q00 l0_0 x4_1).f4, y263⟩ : S43)]) a0_1) else (none)) = some (r1, r2) := by first | (rw [hy263]; with_reducible exact H) | (have H2_ := (Option.bind_some _ _).symm.trans H; rw [hy263]; with_reducible exact H2_) | (have H2_ := (Option.bind_some _ _).symm.trans H; with_reducible exact H2_) | with_reducible exact H | (rw [hy263]; exact H) | exact H
    have Ny263 := aS hy263
    clear hy263
    refine iGp H ?_; clear H; intro c14 H
   case' n10 => intro c10b0 H
   case p10 =>
    have LMc14 := aS c14
    clear c14
    obtain ⟨y266, hy266⟩ : ∃ y_ : List (S43), y_ = (x252000_1 ++ [(⟨(q00 l0_0 x4_1).f0, (q00 l0_0 x4_1).f1, y257, (q00 l0_0 x4_1).f3, (q00 l0_0 x4_1).f4, y263⟩ : S43)]) := ⟨_, rfl⟩
    replace H : (clerestoryref1_copyDoc.l0 k1 (wrap64 (x4_1 + 1)) l0_0 a0_1 y266 a0_1) = some (r1, r2) := by first | (rw [hy266]; with_reducible exact H) | (have H2_ := (Option.bind_some _ _).symm.trans H; rw [hy266]; with_reducible exact H2_) | (have H2_ := (Option.bind_some _ _).symm.trans H; with_reducible exact H2_) | with_reducible exact H | (rw [hy266]; exact H) | exact H
    have Ny266 := aS hy266
    clear hy266
    have H' := aS H
    clear H
    have hnb15 := NB249_250.out
    have hnc15 := NB250_249.out
    have hnb16 := NB249_251.out
    have hnc16 := NB251_249.out
    obtain ⟨hczL_0, hczL_1, hfzL_0, hfzL_1⟩ := bk2 BK249.out
    obtain ⟨ad252, A252_2, c252_2, A252_5, c252_5, e252, hx252_0, hx252_1, hx252_2, hx252_3, hx252_4, hx252_5, HC252_2, HR252_2, HC252_5, HR252_5, p252, q252⟩ := q0y HB.out HR0_0.out x4_1 zb zb
    cases e252
    go_wp2_with (first | ((with_reducible refine q07 (N := 5) rfl ?_); refine q0i ?hg (N := 5) ?hd (cs := #[.int .i64 0, .string (⟨#[]⟩ : ByteArray), .slice none 0 0, .string (⟨#[]⟩ : ByteArray), .int .i64 0, .slice none 0 0]) (t := 43) ?hr ?_; (case hd => rfl); (case hg => rfl); (case hr => first | (go_simp; done) | (go_simp; rfl)); intro gb253 hg w18 hbox hb; have n0_ := aS (Kd.S_below (Kd.S_elderB (zg HO_252000.out) gb253 (Nat.le_of_eq hg.symm)) hb); have n1_ := aS (q01 (g := gb249) (o := .cells #[.slice (some ad252) l0_0.length c0_0, .bool a0_1] 24 (0, 0)) (za BK249.out) hb); have n2_ := aS (q01 (g := gb250) (o := .cells #[.slice none 0 0, .bool false] 24 (0, 0)) (za BK250.out) hb); have n3_ := aS (q01 (g := gb251) (o := .cells #[u252000, .bool a0_1] 24 (0, 0)) (za BK251.out) hb); have n4_ := aS (q02 (by repeat (first | (with_reducible first | exact HB.out | apply bA | apply bN | apply bD | refine bS ?_ GE249.out | refine bS ?_ GE250.out | refine bS ?_ GE251.out) | exact HB.out)) hb); have n5_ := aS (hbox); have n6_ := aS ((by rw [hg]; exact (q03 (by repeat (first | (with_reducible first | exact HB.out | apply bA | apply bN | apply bD | refine bS ?_ GE249.out | refine bS ?_ GE250.out | refine bS ?_ GE251.out) | exact HB.out))) : w.heap.size ≤ gb253)); have n7_ := aS ((by rw [hg]; exact (q03 (by repeat (first | (with_reducible first | exact HB.out | apply bA | apply bN | apply bD | refine bS ?_ GE249.out | refine bS ?_ GE250.out | refine bS ?_ GE251.out) | exact HB.out))) : w.heap.size ≤ gb253)); have n8_ := aS ((by rw [hg]; exact Nat.ne_of_lt (q09 (g := gb249) (o := .cells #[.slice (some ad252) l0_0.length c0_0, .bool a0_1] 24 (0, 0)) (za BK249.out)) : gb249 ≠ gb253)); have n9_ := aS ((by rw [hg]; exact Nat.ne_of_gt (q09 (g := gb249) (o := .cells #[.slice (some ad252) l0_0.length c0_0, .bool a0_1] 24 (0, 0)) (za BK249.out)) : gb253 ≠ gb249)); have n10_ := aS ((by rw [hg]; exact Nat.ne_of_lt (q09 (g := gb250) (o := .cells #[.slice none 0 0, .bool false] 24 (0, 0)) (za BK250.out)) : gb250 ≠ gb253)); have n11_ := aS ((by rw [hg]; exact Nat.ne_of_gt (q09 (g := gb250) (o := .cells #[.slice none 0 0, .bool false] 24 (0, 0)) (za BK250.out)) : gb253 ≠ gb250)); have n12_ := aS ((by rw [hg]; exact Nat.ne_of_lt (q09 (g := gb251) (o := .cells #[u252000, .bool a0_1] 24 (0, 0)) (za BK251.out)) : gb251 ≠ gb253)); have n13_ := aS ((by rw [hg]; exact Nat.ne_of_gt (q09 (g := gb251) (o := .cells #[u252000, .bool a0_1] 24 (0, 0)) (za BK251.out)) : gb253 ≠ gb251)); clear HO_252000; clear BK249; clear BK250; clear BK251; clear HB; have HO_252000 := n0_; have BK249 := n1_; have BK250 := n2_; have BK251 := n3_; have HB := n4_; have BK253 := n5_; have GW253 := n6_; have GE253 := n7_; have NB249_253 := n8_; have NB253_249 := n9_; have NB250_253 := n10_; have NB253_250 := n11_; have NB251_253 := n12_; have NB253_251 := n13_; clear n0_ n1_ n2_ n3_ n4_ n5_ n6_ n7_ n8_ n9_ n10_ n11_ n12_ n13_; clear hb hbox hg; have hnb19 := NB253_249.out; have hnc19 := NB249_253.out; have hnb20 := NB253_250.out; have hnc20 := NB250_253.out; have hnb21 := NB253_251.out; have hnc21 := NB251_253.out; obtain ⟨hczL_0, hczL_1, hczL_2, hczL_3, hczL_4, hczL_5, hfzL_0, hfzL_1, hfzL_2, hfzL_3, hfzL_4, hfzL_5⟩ := bk6 BK253.out) | ((with_reducible refine q07 (N := 21) rfl ?_); refine Kd.R_lit k122 _ 122 ?hg (N := 21) ?hd (xs := ([] : List (S122))) (inner := []) (ok := fun _ => True) (okp := fun _ => True) ?hr ?hp (fun _ hk => hk) trivial (Below.refl _ _) (Nat.le_refl _) (by simp) ?_; (case hd => rfl); (case hg => rfl); (case hr => first | (go_simp; done) | (go_simp; rfl)); (case hp => exact (Reps.none _ _)); intro v255 w23 ho24 hb hg_ hnew_; clear hg_ hnew_; (first | rw [← Ny254.out] at ho24 | (simp only [Int.reduceToNat] at ho24; rw [← Ny254.out] at ho24)); replace HO_252000 := aS (Kd.S_elder' (by (with_reducible repeat (first | apply sA | apply sN | apply sD)); exact (Kd.S_mono (Kd.S_far (p := ⟨gb253, 5, none⟩) (Kd.S_far (p := ⟨gb253, 4, none⟩) (Kd.S_far (p := ⟨gb253, 3, none⟩) (Kd.S_far (p := ⟨gb253, 2, none⟩) (Kd.S_far (p := ⟨gb253, 1, none⟩) (Kd.S_far (p := ⟨gb253, 0, none⟩) (Kd.S_mono HO_252000.out (fun k_ hk => (⟨hk, hk.2⟩ : _ ∧ k_ ≠ gb253))) (fun _ hk => hk.2) (.int .i64 ((q00 l0_0 x4_1).f0))) (fun _ hk => hk.2) (.string ((q00 l0_0 x4_1).f1))) (fun _ hk => hk.2) (.slice A252_2 ((q00 l0_0 x4_1).f2).length c252_2)) (fun _ hk => hk.2) (.string ((q00 l0_0 x4_1).f3))) (fun _ hk => hk.2) (.int .i64 ((q00 l0_0 x4_1).f4))) (fun _ hk => hk.2) (.slice A252_5 ((q00 l0_0 x4_1).f5).length c252_5)) (fun _ h_ => h_.1))) (Kd.R_base ho24) hb); have HO256 := aS (Kd.R_lower ho24 (q03 (by repeat (first | (with_reducible first | exact HB.out | apply bA | apply bN | apply bD | refine bS ?_ GE249.out | refine bS ?_ GE250.out | refine bS ?_ GE251.out | refine bS ?_ GE253.out) | exact HB.out)))); replace BK249 := aS (q01 (g := gb249) (o := .cells #[.slice (some ad252) l0_0.length c0_0, .bool a0_1] 24 (0, 0)) (by (with_reducible repeat (first | refine kN ?_ _ | refine kD ?_ | refine kA ?_ _)); refine q0b ?_ NB249_253.out _; (with_reducible repeat (first | refine kN ?_ _ | refine kD ?_ | refine kA ?_ _)); refine q0b ?_ NB249_253.out _; (with_reducible repeat (first | refine kN ?_ _ | refine kD ?_ | refine kA ?_ _)); refine q0b ?_ NB249_253.out _; (with_reducible repeat (first | refine kN ?_ _ | refine kD ?_ | refine kA ?_ _)); refine q0b ?_ NB249_253.out _; (with_reducible repeat (first | refine kN ?_ _ | refine kD ?_ | refine kA ?_ _)); refine q0b ?_ NB249_253.out _; (with_reducible repeat (first | refine kN ?_ _ | refine kD ?_ | refine kA ?_ _)); refine q0b ?_ NB249_253.out _; (with_reducible repeat (first | refine kN ?_ _ | refine kD ?_ | refine kA ?_ _)); exact BK249.out) hb); replace BK250 := aS (q01 (g := gb250) (o := .cells #[.slice none 0 0, .bool false] 24 (0, 0)) (by (with_reducible repeat (first | refine kN ?_ _ | refine kD ?_ | refine kA ?_ _)); refine q0b ?_ NB250_253.out _; (with_reducible repeat (first | refine kN ?_ _ | refine kD ?_ | refine kA ?_ _)); refine q0b ?_ NB250_253.out _; (with_reducible repeat (first | refine kN ?_ _ | refine kD ?_ | refine kA ?_ _)); refine q0b ?_ NB250_253.out _; (with_reducible repeat (first | refine kN ?_ _ | refine kD ?_ | refine kA ?_ _)); refine q0b ?_ NB250_253.out _; (with_reducible repeat (first | refine kN ?_ _ | refine kD ?_ | refine kA ?_ _)); refine q0b ?_ NB250_253.out _; (with_reducible repeat (first | refine kN ?_ _ | refine kD ?_ | refine kA ?_ _)); refine q0b ?_ NB250_253.out _; (with_reducible repeat (first | refine kN ?_ _ | refine kD ?_ | refine kA ?_ _)); exact BK250.out) hb); replace BK251 := aS (q01 (g := gb251) (o := .cells #[u252000, .bool a0_1] 24 (0, 0)) (by (with_reducible repeat (first | refine kN ?_ _ | refine kD ?_ | refine kA ?_ _)); refine q0b ?_ NB251_253.out _; (with_reducible repeat (first | refine kN ?_ _ | refine kD ?_ | refine kA ?_ _)); refine q0b ?_ NB251_253.out _; (with_reducible repeat (first | refine kN ?_ _ | refine kD ?_ | refine kA ?_ _)); refine q0b ?_ NB251_253.out _; (with_reducible repeat (first | refine kN ?_ _ | refine kD ?_ | refine kA ?_ _)); refine q0b ?_ NB251_253.out _; (with_reducible repeat (first | refine kN ?_ _ | refine kD ?_ | refine kA ?_ _)); refine q0b ?_ NB251_253.out _; (with_reducible repeat (first | refine kN ?_ _ | refine kD ?_ | refine kA ?_ _)); refine q0b ?_ NB251_253.out _; (with_reducible repeat (first | refine kN ?_ _ | refine kD ?_ | refine kA ?_ _)); exact BK251.out) hb); replace BK253 := aS (q01 (g := gb253) (o := .cells #[.int .i64 ((q00 l0_0 x4_1).f0), .string ((q00 l0_0 x4_1).f1), .slice A252_2 ((q00 l0_0 x4_1).f2).length c252_2, .string ((q00 l0_0 x4_1).f3), .int .i64 ((q00 l0_0 x4_1).f4), .slice A252_5 ((q00 l0_0 x4_1).f5).length c252_5] 43 (0, 0)) (by (with_reducible repeat (first | refine kN ?_ _ | refine kD ?_ | refine kA ?_ _)); refine q0e (cs := #[.int .i64 ((q00 l0_0 x4_1).f0), .string ((q00 l0_0 x4_1).f1), .slice A252_2 ((q00 l0_0 x4_1).f2).length c252_2, .string ((q00 l0_0 x4_1).f3), .int .i64 ((q00 l0_0 x4_1).f4), .slice none 0 0]) ?_ 5 _ rfl; (with_reducible repeat (first | refine kN ?_ _ | refine kD ?_ | refine kA ?_ _)); refine q0e (cs := #[.int .i64 ((q00 l0_0 x4_1).f0), .string ((q00 l0_0 x4_1).f1), .slice A252_2 ((q00 l0_0 x4_1).f2).length c252_2, .string ((q00 l0_0 x4_1).f3), .int .i64 0, .slice none 0 0]) ?_ 4 _ rfl; (with_reducible repeat (first | refine kN ?_ _ | refine kD ?_ | refine kA ?_ _)); refine q0e (cs := #[.int .i64 ((q00 l0_0 x4_1).f0), .string ((q00 l0_0 x4_1).f1), .slice A252_2 ((q00 l0_0 x4_1).f2).length c252_2, .string (⟨#[]⟩ : ByteArray), .int .i64 0, .slice none 0 0]) ?_ 3 _ rfl; (with_reducible repeat (first | refine kN ?_ _ | refine kD ?_ | refine kA ?_ _)); refine q0e (cs := #[.int .i64 ((q00 l0_0 x4_1).f0), .string ((q00 l0_0 x4_1).f1), .slice none 0 0, .string (⟨#[]⟩ : ByteArray), .int .i64 0, .slice none 0 0]) ?_ 2 _ rfl; (with_reducible repeat (first | refine kN ?_ _ | refine kD ?_ | refine kA ?_ _)); refine q0e (cs := #[.int .i64 ((q00 l0_0 x4_1).f0), .string (⟨#[]⟩ : ByteArray), .slice none 0 0, .string (⟨#[]⟩ : ByteArray), .int .i64 0, .slice none 0 0]) ?_ 1 _ rfl; (with_reducible repeat (first | refine kN ?_ _ | refine kD ?_ | refine kA ?_ _)); refine q0e (cs := #[.int .i64 0, .string (⟨#[]⟩ : ByteArray), .slice none 0 0, .string (⟨#[]⟩ : ByteArray), .int .i64 0, .slice none 0 0]) ?_ 0 _ rfl; (with_reducible repeat (first | refine kN ?_ _ | refine kD ?_ | refine kA ?_ _)); exact BK253.out) hb); replace HB := aS (q02 (by repeat (first | (with_reducible first | exact HB.out | apply bA | apply bN | apply bD | refine bS ?_ GE249.out | refine bS ?_ GE250.out | refine bS ?_ GE251.out | refine bS ?_ GE253.out) | exact HB.out)) hb); clear hb ho24; obtain ⟨hczL_0, hczL_1, hczL_2, hczL_3, hczL_4, hczL_5, hfzL_0, hfzL_1, hfzL_2, hfzL_3, hfzL_4, hfzL_5⟩ := bk6 BK253.out) | ((with_reducible refine q1l (b := .append) (xs := #[.tmp 21, .tmp 23]) rfl ?_); at_builtin; refine Kd.R_append_rows k122 (w0 := w) w.heap.size rfl (.tmp 21) (.tmp 23) 41 122 (.agg #[(.string ⟨#[]⟩), (.string ⟨#[]⟩)]) 32 rfl Tryd.underlying41 q1u rfl (by decide) (by omega) v255 y254 ((q00 l0_0 x4_1).f2) _ _ _ (fun _ => True) (fun _ => False) rfl rfl ?aO ?aR (fun _ _ h => h) (fun _ h => h.elim) ?aF ?aB ?aS ?aL ?_; (case aR => repeat (first | exact (Kd.C_below HR252_2.out HB.out) | (with_reducible refine cA ?_ _) | (with_reducible refine cN ?_ _) | (with_reducible refine cD ?_))); (case aB => exact (by repeat (first | (with_reducible first | exact HB.out | apply bA | apply bN | apply bD | refine bS ?_ GE249.out | refine bS ?_ GE250.out | refine bS ?_ GE251.out | refine bS ?_ GE253.out) | exact HB.out))); (case aF => exact (fun _ _ => trivial)); (case aO => exact (zf HO256.out)); (case aS => exact (q03 (by repeat (first | (with_reducible first | exact HB.out | apply bA | apply bN | apply bD | refine bS ?_ GE249.out | refine bS ?_ GE250.out | refine bS ?_ GE251.out | refine bS ?_ GE253.out) | exact HB.out)))); (case aL => have := LMc12.out; omega); intro v258 w26 ho hb hg hat; rw [← Ny257.out] at ho; have n0_ := aS (Kd.S_after (ok := (fun k_ => k_ ≠ gb253)) (by (with_reducible repeat (first | apply sA | apply sN | apply sD)); exact Kd.S_mono HO_252000.out (fun _ hk => ⟨hk.1.2, hk.2⟩)) hg hat); have n1_ := aS (q1b (g := gb249) (o := .cells #[.slice (some ad252) l0_0.length c0_0, .bool a0_1] 24 (0, 0)) (za BK249.out) hg (Kd.R_ne HO256.out BK249.out (by decide))); have n2_ := aS (q1b (g := gb250) (o := .cells #[.slice none 0 0, .bool false] 24 (0, 0)) (za BK250.out) hg (Kd.R_ne HO256.out BK250.out (by decide))); have n3_ := aS (q1b (g := gb251) (o := .cells #[u252000, .bool a0_1] 24 (0, 0)) (za BK251.out) hg (Kd.R_ne HO256.out BK251.out (by decide))); have n4_ := aS (q1b (g := gb253) (o := .cells #[.int .i64 ((q00 l0_0 x4_1).f0), .string ((q00 l0_0 x4_1).f1), .slice A252_2 ((q00 l0_0 x4_1).f2).length c252_2, .string ((q00 l0_0 x4_1).f3), .int .i64 ((q00 l0_0 x4_1).f4), .slice A252_5 ((q00 l0_0 x4_1).f5).length c252_5] 43 (0, 0)) (za BK253.out) hg (Kd.R_ne HO256.out BK253.out (by decide))); have n5_ := aS (hb); have n6_ := aS (ho); clear HO_252000; clear BK249; clear BK250; clear BK251; clear BK253; clear HB; clear HO256; have HO_252000 := n0_; have BK249 := n1_; have BK250 := n2_; have BK251 := n3_; have BK253 := n4_; have HB := n5_; have HO259 := n6_; clear n0_ n1_ n2_ n3_ n4_ n5_ n6_; clear ho hb hg hat; obtain ⟨Ao27, co27, eo27⟩ := Kd.R_slice HO259.out; subst eo27; obtain ⟨hczL_0, hczL_1, hczL_2, hczL_3, hczL_4, hczL_5, hfzL_0, hfzL_1, hfzL_2, hfzL_3, hfzL_4, hfzL_5⟩ := bk6 BK253.out) | ((with_reducible refine q07 (N := 26) rfl ?_); refine Kd.R_lit (Kd.int .i64) _ 3 ?hg (N := 26) ?hd (xs := ([] : List Int)) (inner := []) (ok := fun _ => True) (okp := fun _ => True) ?hr ?hp (fun _ hk => hk) trivial (Below.refl _ _) (Nat.le_refl _) (by simp) ?_; (case hd => rfl); (case hg => rfl); (case hr => first | (go_simp; done) | (go_simp; rfl)); (case hp => exact (Reps.none _ _)); intro v261 w29 ho30 hb hg_ hnew_; clear hg_ hnew_; (first | rw [← Ny260.out] at ho30 | (simp only [Int.reduceToNat] at ho30; rw [← Ny260.out] at ho30)); replace HO_252000 := aS (Kd.S_elder' (by (with_reducible repeat (first | apply sA | apply sN | apply sD)); exact (Kd.S_mono (Kd.S_far (p := ⟨gb253, 2, none⟩) (Kd.S_mono HO_252000.out (fun k_ hk => (⟨hk, hk.1⟩ : _ ∧ k_ ≠ gb253))) (fun _ hk => hk.2) (.slice Ao27 y257.length co27)) (fun _ h_ => h_.1))) (Kd.R_base ho30) hb); replace HO259 := aS (Kd.R_below (by (with_reducible repeat (first | apply rA | apply rN | apply rD)); exact (Kd.R_mono (Kd.R_far (p := ⟨gb253, 2, none⟩) (Kd.R_types HO259.out BK253.out (by decide)) (fun _ hk => hk.2) (.slice Ao27 y257.length co27)) (fun _ h_ => h_.1))) hb); have HO262 := aS (Kd.R_lower ho30 (q03 (by repeat (first | (with_reducible first | exact HB.out | apply bA | apply bN | apply bD | refine bS ?_ GE249.out | refine bS ?_ GE250.out | refine bS ?_ GE251.out | refine bS ?_ GE253.out) | exact HB.out)))); replace BK249 := aS (q01 (g := gb249) (o := .cells #[.slice (some ad252) l0_0.length c0_0, .bool a0_1] 24 (0, 0)) (by (with_reducible repeat (first | refine kN ?_ _ | refine kD ?_ | refine kA ?_ _)); refine q0b ?_ NB249_253.out _; (with_reducible repeat (first | refine kN ?_ _ | refine kD ?_ | refine kA ?_ _)); exact BK249.out) hb); replace BK250 := aS (q01 (g := gb250) (o := .cells #[.slice none 0 0, .bool false] 24 (0, 0)) (by (with_reducible repeat (first | refine kN ?_ _ | refine kD ?_ | refine kA ?_ _)); refine q0b ?_ NB250_253.out _; (with_reducible repeat (first | refine kN ?_ _ | refine kD ?_ | refine kA ?_ _)); exact BK250.out) hb); replace BK251 := aS (q01 (g := gb251) (o := .cells #[u252000, .bool a0_1] 24 (0, 0)) (by (with_reducible repeat (first | refine kN ?_ _ | refine kD ?_ | refine kA ?_ _)); refine q0b ?_ NB251_253.out _; (with_reducible repeat (first | refine kN ?_ _ | refine kD ?_ | refine kA ?_ _)); exact BK251.out) hb); replace BK253 := aS (q01 (g := gb253) (o := .cells #[.int .i64 ((q00 l0_0 x4_1).f0), .string ((q00 l0_0 x4_1).f1), .slice Ao27 y257.length co27, .string ((q00 l0_0 x4_1).f3), .int .i64 ((q00 l0_0 x4_1).f4), .slice A252_5 ((q00 l0_0 x4_1).f5).length c252_5] 43 (0, 0)) (by (with_reducible repeat (first | refine kN ?_ _ | refine kD ?_ | refine kA ?_ _)); refine q0e (cs := #[.int .i64 ((q00 l0_0 x4_1).f0), .string ((q00 l0_0 x4_1).f1), .slice A252_2 ((q00 l0_0 x4_1).f2).length c252_2, .string ((q00 l0_0 x4_1).f3), .int .i64 ((q00 l0_0 x4_1).f4), .slice A252_5 ((q00 l0_0 x4_1).f5).length c252_5]) ?_ 2 _ rfl; (with_reducible repeat (first | refine kN ?_ _ | refine kD ?_ | refine kA ?_ _)); exact BK253.out) hb); replace HB := aS (q02 (by repeat (first | (with_reducible first | exact HB.out | apply bA | apply bN | apply bD | refine bS ?_ GE249.out | refine bS ?_ GE250.out | refine bS ?_ GE251.out | refine bS ?_ GE253.out) | exact HB.out)) hb); clear hb ho30; obtain ⟨hczL_0, hczL_1, hczL_2, hczL_3, hczL_4, hczL_5, hfzL_0, hfzL_1, hfzL_2, hfzL_3, hfzL_4, hfzL_5⟩ := bk6 BK253.out) | ((with_reducible refine q1l (b := .append) (xs := #[.tmp 26, .tmp 28]) rfl ?_); at_builtin; refine Kd.R_append_rows (Kd.int .i64) (w0 := w) w.heap.size rfl (.tmp 26) (.tmp 28) 31 3 (.int .i64 0) 8 rfl Tryd.underlying31 info3 rfl (by decide) (by omega) v261 y260 ((q00 l0_0 x4_1).f5) _ _ _ (fun _ => True) (fun _ => False) rfl rfl ?aO ?aR (fun _ _ h => h) (fun _ h => h.elim) ?aF ?aB ?aS ?aL ?_; (case aR => repeat (first | exact (Kd.C_below HR252_5.out HB.out) | (with_reducible refine cA ?_ _) | (with_reducible refine cN ?_ _) | (with_reducible refine cD ?_))); (case aB => exact (by repeat (first | (with_reducible first | exact HB.out | apply bA | apply bN | apply bD | refine bS ?_ GE249.out | refine bS ?_ GE250.out | refine bS ?_ GE251.out | refine bS ?_ GE253.out) | exact HB.out))); (case aF => exact (fun _ _ => trivial)); (case aO => exact (zf HO262.out)); (case aS => exact (q03 (by repeat (first | (with_reducible first | exact HB.out | apply bA | apply bN | apply bD | refine bS ?_ GE249.out | refine bS ?_ GE250.out | refine bS ?_ GE251.out | refine bS ?_ GE253.out) | exact HB.out)))); (case aL => have := LMc13.out; omega); intro v264 w32 ho hb hg hat; rw [← Ny263.out] at ho; have n0_ := aS (Kd.S_after (ok := (fun k_ => some k_ ≠ (.slice Ao27 y257.length co27 : Value).ownBlock ∧ k_ ≠ gb253)) (by (with_reducible repeat (first | apply sA | apply sN | apply sD)); exact Kd.S_mono HO_252000.out (fun _ hk => ⟨⟨hk.1.2, hk.1.1⟩, hk.2⟩)) hg hat); have n1_ := aS (q1b (g := gb249) (o := .cells #[.slice (some ad252) l0_0.length c0_0, .bool a0_1] 24 (0, 0)) (za BK249.out) hg (Kd.R_ne HO262.out BK249.out (by decide))); have n2_ := aS (q1b (g := gb250) (o := .cells #[.slice none 0 0, .bool false] 24 (0, 0)) (za BK250.out) hg (Kd.R_ne HO262.out BK250.out (by decide))); have n3_ := aS (q1b (g := gb251) (o := .cells #[u252000, .bool a0_1] 24 (0, 0)) (za BK251.out) hg (Kd.R_ne HO262.out BK251.out (by decide))); have n4_ := aS (q1b (g := gb253) (o := .cells #[.int .i64 ((q00 l0_0 x4_1).f0), .string ((q00 l0_0 x4_1).f1), .slice Ao27 y257.length co27, .string ((q00 l0_0 x4_1).f3), .int .i64 ((q00 l0_0 x4_1).f4), .slice A252_5 ((q00 l0_0 x4_1).f5).length c252_5] 43 (0, 0)) (za BK253.out) hg (Kd.R_ne HO262.out BK253.out (by decide))); have n5_ := aS (Kd.R_over' (zf HO259.out) (Kd.R_typed (zf HO262.out)) (by decide) hg); have n6_ := aS (hb); have n7_ := aS (ho); clear HO_252000; clear BK249; clear BK250; clear BK251; clear BK253; clear HO259; clear HB; clear HO262; have HO_252000 := n0_; have BK249 := n1_; have BK250 := n2_; have BK251 := n3_; have BK253 := n4_; have HO259 := n5_; have HB := n6_; have HO265 := n7_; clear n0_ n1_ n2_ n3_ n4_ n5_ n6_ n7_; clear ho hb hg hat; obtain ⟨Ao33, co33, eo33⟩ := Kd.R_slice HO265.out; subst eo33; obtain ⟨hczL_0, hczL_1, hczL_2, hczL_3, hczL_4, hczL_5, hfzL_0, hfzL_1, hfzL_2, hfzL_3, hfzL_4, hfzL_5⟩ := bk6 BK253.out) | ((with_reducible refine gate_store (t := 31) (p := 30) rfl ?_); refine store_event (t := 31) (p := 30) (v := ?vo_w35) (w1 := (w32.setCell ⟨gb253, 5, none⟩ (.slice Ao33 y263.length co33))) ?hg ?ho ?hn ?hr ?_; (case ho => rfl); (case hg => rfl); (case hn => rfl); (case hr => first | (go_simp; done) | (go_simp; rfl)); intro w35 hw; have n0_ : Aside0 (Kd.S k43 43 w35 w.heap.size (fun k_ => some k_ ≠ (.slice Ao27 y257.length co27 : Value).ownBlock ∧ some k_ ≠ (.slice Ao33 y263.length co33 : Value).ownBlock ∧ k_ ≠ gb253) u252000 x252000_1) := ⟨(by rw [hw]; exact (by (with_reducible repeat (first | apply sA | apply sN | apply sD)); exact Kd.S_mono (Kd.S_far (p := ⟨gb253, 5, none⟩) (Kd.S_mono HO_252000.out (fun k_ hk => (⟨hk, hk.1.2⟩ : _ ∧ k_ ≠ gb253))) (fun _ hk => hk.2) (.slice Ao33 y263.length co33)) (fun _ hk => ⟨hk.1.1.1, ⟨hk.1.2, hk.1.1.2⟩⟩)))⟩; have n1_ : Aside0 (Kd.R k122 122 w35 w.heap.size (fun _ => True) (.slice Ao27 y257.length co27) y257) := ⟨(by rw [hw]; exact (by (with_reducible repeat (first | apply rA | apply rN | apply rD)); exact Kd.R_mono (Kd.R_far (p := ⟨gb253, 5, none⟩) (Kd.R_types HO259.out BK253.out (by decide)) (fun _ hk => hk.2) (.slice Ao33 y263.length co33)) (fun _ hk => trivial)))⟩; have n2_ : Aside0 (Kd.R (Kd.int .i64) 3 w35 w.heap.size (fun _ => True) (.slice Ao33 y263.length co33) y263) := ⟨(by rw [hw]; exact (by (with_reducible repeat (first | apply rA | apply rN | apply rD)); exact Kd.R_mono (Kd.R_far (p := ⟨gb253, 5, none⟩) (Kd.R_types HO265.out BK253.out (by decide)) (fun _ hk => hk.2) (.slice Ao33 y263.length co33)) (fun _ hk => trivial)))⟩; have n3_ : Aside0 (w35.heap[gb249]? = some (.cells #[.slice (some ad252) l0_0.length c0_0, .bool a0_1] 24 (0, 0))) := ⟨(by rw [hw]; exact (by (with_reducible repeat (first | refine kN ?_ _ | refine kD ?_ | refine kA ?_ _)); refine q0b ?_ NB249_253.out _; (with_reducible repeat (first | refine kN ?_ _ | refine kD ?_ | refine kA ?_ _)); exact BK249.out))⟩; have n4_ : Aside0 (w35.heap[gb250]? = some (.cells #[.slice none 0 0, .bool false] 24 (0, 0))) := ⟨(by rw [hw]; exact (by (with_reducible repeat (first | refine kN ?_ _ | refine kD ?_ | refine kA ?_ _)); refine q0b ?_ NB250_253.out _; (with_reducible repeat (first | refine kN ?_ _ | refine kD ?_ | refine kA ?_ _)); exact BK250.out))⟩; have n5_ : Aside0 (w35.heap[gb251]? = some (.cells #[u252000, .bool a0_1] 24 (0, 0))) := ⟨(by rw [hw]; exact (by (with_reducible repeat (first | refine kN ?_ _ | refine kD ?_ | refine kA ?_ _)); refine q0b ?_ NB251_253.out _; (with_reducible repeat (first | refine kN ?_ _ | refine kD ?_ | refine kA ?_ _)); exact BK251.out))⟩; have n6_ : Aside0 (w35.heap[gb253]? = some (.cells #[.int .i64 ((q00 l0_0 x4_1).f0), .string ((q00 l0_0 x4_1).f1), .slice Ao27 y257.length co27, .string ((q00 l0_0 x4_1).f3), .int .i64 ((q00 l0_0 x4_1).f4), .slice Ao33 y263.length co33] 43 (0, 0))) := ⟨(by rw [hw]; exact (by (with_reducible repeat (first | refine kN ?_ _ | refine kD ?_ | refine kA ?_ _)); refine q0e (cs := #[.int .i64 ((q00 l0_0 x4_1).f0), .string ((q00 l0_0 x4_1).f1), .slice Ao27 y257.length co27, .string ((q00 l0_0 x4_1).f3), .int .i64 ((q00 l0_0 x4_1).f4), .slice A252_5 ((q00 l0_0 x4_1).f5).length c252_5]) ?_ 5 _ rfl; (with_reducible repeat (first | refine kN ?_ _ | refine kD ?_ | refine kA ?_ _)); exact BK253.out))⟩; have n7_ : Aside0 (Below w.heap.size w w35) := ⟨(by rw [hw]; exact (by repeat (first | (with_reducible first | exact HB.out | apply bA | apply bN | apply bD | refine bS ?_ GE249.out | refine bS ?_ GE250.out | refine bS ?_ GE251.out | refine bS ?_ GE253.out) | exact HB.out)))⟩; clear hw; clear HO_252000; clear HO259; clear HO265; clear BK249; clear BK250; clear BK251; clear BK253; clear HB; have HO_252000 := n0_; have HO259 := n1_; have HO265 := n2_; have BK249 := n3_; have BK250 := n4_; have BK251 := n5_; have BK253 := n6_; have HB := n7_; clear n0_ n1_ n2_ n3_ n4_ n5_ n6_ n7_; have hnb36 := NB251_250.out; have hnc36 := NB250_251.out; obtain ⟨hczL_0, hczL_1, hfzL_0, hfzL_1⟩ := bk2 BK251.out; obtain ⟨hczL_0, hczL_1, hczL_2, hczL_3, hczL_4, hczL_5, hfzL_0, hfzL_1, hfzL_2, hfzL_3, hfzL_4, hfzL_5⟩ := bk6 BK253.out) | ((with_reducible refine q1l (b := .append) (xs := #[.tmp 32, .tmp 34]) rfl ?_); at_builtin; refine Kd.S_append k43 (w0 := w) w.heap.size rfl (.tmp 32) (.tmp 34) 22 43 (.agg #[(.int .i64 0), (.string ⟨#[]⟩), (.slice none 0 0), (.string ⟨#[]⟩), (.int .i64 0), (.slice none 0 0)]) 96 rfl Tryd.underlying22 info43 rfl (by decide) (by omega) u252000 x252000_1 (⟨(q00 l0_0 x4_1).f0, (q00 l0_0 x4_1).f1, y257, (q00 l0_0 x4_1).f3, (q00 l0_0 x4_1).f4, y263⟩ : S43) [.int .i64 ((q00 l0_0 x4_1).f0), .string ((q00 l0_0 x4_1).f1), .slice Ao27 y257.length co27, .string ((q00 l0_0 x4_1).f3), .int .i64 ((q00 l0_0 x4_1).f4), .slice Ao33 y263.length co33] (fun k_ => k_ ≠ gb253) (fun k_ => some k_ = (.slice Ao27 y257.length co27 : Value).ownBlock ∨ some k_ = (.slice Ao33 y263.length co33 : Value).ownBlock) rfl rfl ?aP (fun k_ hk_ => hk_.elim (fun h_ => ((Kd.R_mono (ok' := fun k_ => ((fun k_ => k_ ≠ gb253)) k_ ∧ some k_ ≠ (u252000 : Value).ownBlock) (Kd.R_types (Kd.R_apart' (HO259.out) (Kd.S_typed HO_252000.out) (by decide)) BK253.out (by decide)) (fun k_ hk => ⟨hk.2, hk.1.2⟩))).1 k_ h_.symm) (fun h_ => ((Kd.R_mono (ok' := fun k_ => ((fun k_ => k_ ≠ gb253)) k_ ∧ some k_ ≠ (u252000 : Value).ownBlock) (Kd.R_types (Kd.R_apart' (HO265.out) (Kd.S_typed HO_252000.out) (by decide)) BK253.out (by decide)) (fun k_ hk => ⟨hk.2, hk.1.2⟩))).1 k_ h_.symm)) ?aF ?aO ?aB ?aS ?aL ?_; (case aP => exact q28 _ _ _ (⟨(q00 l0_0 x4_1).f0, (q00 l0_0 x4_1).f1, y257, (q00 l0_0 x4_1).f3, (q00 l0_0 x4_1).f4, y263⟩ : S43) (Kd.R_mono (Kd.R_tight rfl (Kd.R_mono (ok' := fun k_ => ((fun k_ => k_ ≠ gb253)) k_ ∧ some k_ ≠ (u252000 : Value).ownBlock) (Kd.R_types (Kd.R_apart' (HO259.out) (Kd.S_typed HO_252000.out) (by decide)) BK253.out (by decide)) (fun k_ hk => ⟨hk.2, hk.1.2⟩))) (fun _ h_ => Or.inl h_)) (Kd.R_mono (Kd.R_tight rfl (Kd.R_mono (ok' := fun k_ => ((fun k_ => k_ ≠ gb253)) k_ ∧ some k_ ≠ (u252000 : Value).ownBlock) (Kd.R_types (Kd.R_apart' (HO265.out) (Kd.S_typed HO_252000.out) (by decide)) BK253.out (by decide)) (fun k_ hk => ⟨hk.2, hk.1.2⟩))) (fun _ h_ => Or.inr (h_)))); (case aB => exact (by repeat (first | (with_reducible first | exact HB.out | apply bA | apply bN | apply bD | refine bS ?_ GE249.out | refine bS ?_ GE250.out | refine bS ?_ GE251.out | refine bS ?_ GE253.out) | exact HB.out))); (case aF => exact (fun k_ hk => Kd.freshB (g := gb253) (o := .cells #[.int .i64 ((q00 l0_0 x4_1).f0), .string ((q00 l0_0 x4_1).f1), .slice Ao27 y257.length co27, .string ((q00 l0_0 x4_1).f3), .int .i64 ((q00 l0_0 x4_1).f4), .slice Ao33 y263.length co33] 43 (0, 0)) (za BK253.out) k_ hk)); (case aO => exact (by (with_reducible repeat (first | apply sA | apply sN | apply sD)); exact Kd.S_mono HO_252000.out (fun k_ hk => ⟨hk.2.2, fun e_ => e_.elim (fun h_ => hk.1 h_) (fun h_ => hk.2.1 h_)⟩))); (case aS => exact (q03 (by repeat (first | (with_reducible first | exact HB.out | apply bA | apply bN | apply bD | refine bS ?_ GE249.out | refine bS ?_ GE250.out | refine bS ?_ GE251.out | refine bS ?_ GE253.out) | exact HB.out)))); (case aL => have := LMc14.out; omega); intro v267 w39 ho hb hg hat; rw [← Ny266.out] at ho; have n0_ := aS (q1b (g := gb249) (o := .cells #[.slice (some ad252) l0_0.length c0_0, .bool a0_1] 24 (0, 0)) (za BK249.out) hg (Kd.S_ne HO_252000.out BK249.out (by decide))); have n1_ := aS (q1b (g := gb250) (o := .cells #[.slice none 0 0, .bool false] 24 (0, 0)) (za BK250.out) hg (Kd.S_ne HO_252000.out BK250.out (by decide))); have n2_ := aS (q1b (g := gb251) (o := .cells #[u252000, .bool a0_1] 24 (0, 0)) (za BK251.out) hg (Kd.S_ne HO_252000.out BK251.out (by decide))); have n3_ := aS (q1b (g := gb253) (o := .cells #[.int .i64 ((q00 l0_0 x4_1).f0), .string ((q00 l0_0 x4_1).f1), .slice Ao27 y257.length co27, .string ((q00 l0_0 x4_1).f3), .int .i64 ((q00 l0_0 x4_1).f4), .slice Ao33 y263.length co33] 43 (0, 0)) (za BK253.out) hg (Kd.S_away HO_252000.out (fun _ hk => hk.2.2))); have n4_ := aS (hb); have n5_ := aS (ho); clear BK249; clear BK250; clear BK251; clear BK253; clear HB; clear HO_252000; clear HO259; clear HO265; have BK249 := n0_; have BK250 := n1_; have BK251 := n2_; have BK253 := n3_; have HB := n4_; have HO268 := n5_; clear n0_ n1_ n2_ n3_ n4_ n5_; clear ho hb hg hat; obtain ⟨Ao40, co40, eo40⟩ := Kd.S_slice HO268.out; subst eo40; obtain ⟨hczL_0, hczL_1, hfzL_0, hfzL_1⟩ := bk2 BK251.out))
    go_roundg k1
    case measure => have := HK1.out; omega
    case rel => exact ⟨(wrap64 (x4_1 + 1)), (y266), (.slice Ao40 y266.length co40), zi, H', ⟨by have := HK1.out; omega⟩, ⟨by (with_reducible repeat (first | apply sA | apply sN | apply sD)); exact Kd.S_mono (Kd.S_far (p := ⟨gb251, 0, none⟩) (Kd.S_types HO268.out BK251.out (by decide)) (fun _ hk => hk.2) (.slice Ao40 y266.length co40)) (fun _ hk => trivial)⟩, ⟨by (with_reducible repeat (first | refine kN ?_ _ | refine kD ?_ | refine kA ?_ _)); refine q0b ?_ NB249_251.out _; (with_reducible repeat (first | refine kN ?_ _ | refine kD ?_ | refine kA ?_ _)); exact BK249.out⟩, ⟨by (with_reducible repeat (first | refine kN ?_ _ | refine kD ?_ | refine kA ?_ _)); refine q0b ?_ NB250_251.out _; (with_reducible repeat (first | refine kN ?_ _ | refine kD ?_ | refine kA ?_ _)); exact BK250.out⟩, ⟨by (with_reducible repeat (first | refine kN ?_ _ | refine kD ?_ | refine kA ?_ _)); refine q0e (cs := #[u252000, .bool a0_1]) ?_ 0 _ rfl; (with_reducible repeat (first | refine kN ?_ _ | refine kD ?_ | refine kA ?_ _)); exact BK251.out⟩, ⟨by repeat (first | (with_reducible first | exact HB.out | apply bA | apply bN | apply bD | refine bS ?_ GE249.out | refine bS ?_ GE250.out | refine bS ?_ GE251.out | refine bS ?_ GE253.out) | exact HB.out)⟩⟩
   case n10 =>
    simp only [Option.some.injEq, Prod.mk.injEq] at H
    obtain ⟨rfl, rfl⟩ := H
    have hnb42 := NB249_250.out
    have hnc42 := NB250_249.out
    have hnb43 := NB249_251.out
    have hnc43 := NB251_249.out
    obtain ⟨hczL_0, hczL_1, hfzL_0, hfzL_1⟩ := bk2 BK249.out
    have hnb45 := NB251_250.out
    have hnc45 := NB250_251.out
    obtain ⟨hczL_0, hczL_1, hfzL_0, hfzL_1⟩ := bk2 BK251.out
    obtain ⟨Ao47, co47, eo47⟩ := Kd.S_slice HO_252000.out
    subst eo47
    obtain ⟨hczL_0, hczL_1, hfzL_0, hfzL_1⟩ := bk2 BK250.out
    go_wp2
    refine bodyPost_ret (results_cell_row rfl _ _ gb250 24 #[.slice Ao47 x252000_1.length co47, .bool a0_1] (0, 0) _ rfl (by (with_reducible repeat (first | refine kN ?_ _ | refine kD ?_ | refine kA ?_ _)); refine q0e (cs := #[.slice Ao47 x252000_1.length co47, .bool false]) ?_ 1 _ rfl; (with_reducible repeat (first | refine kN ?_ _ | refine kD ?_ | refine kA ?_ _)); refine q0e (cs := #[.slice none 0 0, .bool false]) ?_ 0 _ rfl; (with_reducible repeat (first | refine kN ?_ _ | refine kD ?_ | refine kA ?_ _)); exact BK250.out) Tryd.underlying24 rfl (by kernel_rfl)) rfl ?_
    exact ⟨_, by first | rfl | (simp [q05, q04] <;> rfl) | (simp [*, q05, q04] <;> rfl), by (with_reducible repeat (first | apply sA | apply sN | apply sD)); exact Kd.S_mono (Kd.S_far (p := ⟨gb250, 1, none⟩) (Kd.S_far (p := ⟨gb250, 0, none⟩) (Kd.S_types HO_252000.out BK250.out (by decide)) (fun _ hk => hk.2) (.slice Ao47 x252000_1.length co47)) (fun _ hk => hk.2) (.bool a0_1)) (fun _ hk => trivial), by repeat (first | (with_reducible first | exact HB.out | apply bA | apply bN | apply bD | refine bS ?_ GE249.out | refine bS ?_ GE250.out | refine bS ?_ GE251.out) | exact HB.out)⟩
end Go.Proofs.YthjnallbbhnndaaDoor.XDe
namespace Go.Proofs.YthjnallbbhnndaaDoor.XDe
open Go.Proofs.YthjnallbbhnndaaDoor.Short Go.RowKit Go.Proofs.YthjnallbbhnndaaDoorW.PrintWords Go.Proofs.YthjnallbbhnndaaDoorW.PrintLast Go.Proofs.YthjnallbbhnndaaDoorW.PrintMore
attribute [local go_sem] q16 q14 q1g q1f q0v q0u q15 q13   -- for this text's walks alone
set_option linter.unusedVariables false
set_option linter.unusedSimpArgs false
def clerestoryref1_without.f (l0 : List Int) (a1 : Int) : Option (List Int) := (some (([] : List Int) : List Int)).bind fun y269 => (if 0 ≤ a1 then (if a1 ≤ (l0.length : Int) then (if y269.length + (l0.take (a1 : Int).toNat).length < 17592186044416 then ((some (y269 ++ (l0.take (a1 : Int).toNat) : List Int)).bind fun y273 => (if 0 ≤ (wrap64 (a1 + 1)) then (if (wrap64 (a1 + 1)) ≤ (l0.length : Int) then (if y273.length + (l0.drop ((wrap64 (a1 + 1)) : Int).toNat).length < 17592186044416 then (some (y273 ++ (l0.drop ((wrap64 (a1 + 1)) : Int).toNat))) else (none)) else (none)) else (none))) else (none)) else (none)) else (none))
def clerestoryref1_without.T1 : Bool × List (List Nat × List Nat) := (true, [([], []), ([], []), ([], []), ([1, 2], [1, 2]), ([0, 3], [0, 3]), ([], []), ([], []), ([6], [6]), ([5, 7], [5, 7]), ([4, 8, 4], [4, 8]), ([9, 9, 0, 1, 2, 3, 4, 5, 6, 7, 8, 9], [9])])
def clerestoryref1_without.B1 : List Nat := [0, 0, 0, 6, 15, 0, 0, 64, 224, 511, 1023]
theorem clerestoryref1_without.tab1 : rtab .any (opsOf Tryd.f108 1) = clerestoryref1_without.T1 := by kernel_rfl
theorem clerestoryref1_without.bits1 : waitsOk clerestoryref1_without.T1.2 clerestoryref1_without.B1 = true := by kernel_rfl
set_option maxHeartbeats 8000000 in
set_option maxRecDepth 100000 in
theorem clerestoryref1_without.calls (A0 : Option Addr) (c0 : Nat) (l0 : List Int) (a1 : Int) (r : List Int) (w : World) (hr0 : Kd.C (Kd.int .i64) w A0 l0.length l0) (hc0 : l0.length ≤ c0) (h : clerestoryref1_without.f l0 a1 = some r) :
 Calls Tryd.prog 108 #[.slice A0 l0.length c0, .int .i64 a1] w fun e w' => ∃ v0_ : Value, e = .returned (v0_) ∧ Kd.R (Kd.int .i64) 3 w' w.heap.size (fun _ => True) v0_ r ∧ Below w.heap.size w w' := by
 have HR0 := aS hr0
 have HC0 := aS hc0
 clear hr0 hc0
 have HB := aS (Below.refl w.heap.size w)
 have H := h; clear h; unfold clerestoryref1_without.f at H
 obtain ⟨y269, hy269⟩ : ∃ y_ : List Int, y_ = (([] : List Int)) := ⟨_, rfl⟩
 replace H : (if 0 ≤ a1 then (if a1 ≤ (l0.length : Int) then (if y269.length + (l0.take (a1 : Int).toNat).length < 17592186044416 then ((some (y269 ++ (l0.take (a1 : Int).toNat) : List Int)).bind fun y273 => (if 0 ≤ (wrap64 (a1 + 1)) then (if (wrap64 (a1 + 1)) ≤ (l0.length : Int) then (if y273.length + (l0.drop ((wrap64 (a1 + 1)) : Int).toNat).length < 17592186044416 then (some (y273 ++ (l0.drop ((wrap64 (a1 + 1)) : Int).toNat))) else (none)) else (none)) else (none))) else (none)) else (none)) else (none)) = some r := by first | (rw [hy269]; with_reducible exact H) | (have H2_ := (Option.bind_some _ _).symm.trans H; rw [hy269]; with_reducible exact H2_) | (have H2_ := (Option.bind_some _ _).symm.trans H; with_reducible exact H2_) | with_reducible exact H | (rw [hy269]; exact H) | exact H
 have Ny269 := aS hy269
 clear hy269
 refine iGp H ?_; clear H; intro c3 H
 have c3b0 := eq_true c3
 have c3b1 : decide (0 ≤ a1) = true := decide_eq_true c3
 clear c3
 refine iGp H ?_; clear H; intro c4 H
 have c4b0 := eq_true c4
 have c4b1 : decide (a1 ≤ (l0.length : Int)) = true := decide_eq_true c4
 clear c4
 refine iGp H ?_; clear H; intro c5 H
 have LMc5 := aS c5
 clear c5
 obtain ⟨y273, hy273⟩ : ∃ y_ : List Int, y_ = (y269 ++ (l0.take (a1 : Int).toNat)) := ⟨_, rfl⟩
 replace H : (if 0 ≤ (wrap64 (a1 + 1)) then (if (wrap64 (a1 + 1)) ≤ (l0.length : Int) then (if y273.length + (l0.drop ((wrap64 (a1 + 1)) : Int).toNat).length < 17592186044416 then (some (y273 ++ (l0.drop ((wrap64 (a1 + 1)) : Int).toNat))) else (none)) else (none)) else (none)) = some r := by first | (rw [hy273]; with_reducible exact H) | (have H2_ := (Option.bind_some _ _).symm.trans H; rw [hy273]; with_reducible exact H2_) | (have H2_ := (Option.bind_some _ _).symm.trans H; with_reducible exact H2_) | with_reducible exact H | (rw [hy273]; exact H) | exact H
 have Ny273 := aS hy273
 clear hy273
 obtain ⟨ji6, hji6⟩ : ∃ j_ : Int, (wrap64 (a1 + 1)) = j_ := ⟨_, rfl⟩
 replace H : (if 0 ≤ (ji6) then (if (ji6) ≤ (l0.length : Int) then (if y273.length + (l0.drop ((ji6) : Int).toNat).length < 17592186044416 then (some (y273 ++ (l0.drop ((ji6) : Int).toNat))) else (none)) else (none)) else (none)) = some r := by first | (rw [hji6] at H; exact H) | (simp only [hji6] at H ⊢; exact H)
 have hji6w : (IntKind.i64.wrap (a1 + 1)) = ji6 := (q0g _).trans hji6
 refine iGp H ?_; clear H; intro c7 H
 have c7b0 := eq_true c7
 have c7b1 : decide (0 ≤ (ji6)) = true := decide_eq_true c7
 clear c7
 refine iGp H ?_; clear H; intro c8 H
 have c8b0 := eq_true c8
 have c8b1 : decide ((ji6) ≤ (l0.length : Int)) = true := decide_eq_true c8
 clear c8
 refine iGp H ?_; clear H; intro c9 H
 have LMc9 := aS c9
 clear c9
 obtain ⟨y277, hy277⟩ : ∃ y_ : List Int, y_ = (y273 ++ (l0.drop ((ji6) : Int).toNat)) := ⟨_, rfl⟩
 replace H : (some y277) = some r := by first | (rw [hy277]; with_reducible exact H) | (have H2_ := (Option.bind_some _ _).symm.trans H; rw [hy277]; with_reducible exact H2_) | (have H2_ := (Option.bind_some _ _).symm.trans H; with_reducible exact H2_) | with_reducible exact H | (rw [hy277]; exact H) | exact H
 have Ny277 := aS hy277
 clear hy277
 obtain rfl := Option.some.inj H
 go_enter Tryd.func108, Tryd.ntmps108
 try go_wp2
 have n0_ := aS (below_drew1 HB.out)
 clear HB
 have HB := n0_
 clear n0_
 obtain ⟨i011, hi011, _, hsz11, _⟩ := info_parts info3
 obtain ⟨hcut11, hA11, hC11⟩ := print_take_of (P := Tryd.prog) (Value.int .i64) 0 31 3 .i64 Tryd.underlying31 hi011 hsz11 A0 c0 l0 a1 (od zb) (od zb) HC0.out
 have HR272 := aS (Kd.C_of_reads (h1 := fun _ => rfl) (hA11 _ (Kd.reads_of_C HR0.out)))
 have HC272 := aS hC11
 clear hA11 hC11 hi011 hsz11
 have HSL272 := aS (show (l0.take (a1 : Int).toNat).length = a1.toNat from (by rw [List.length_take]; have h_ : (a1 : Int) ≤ (l0.length : Int) := od zb; omega))
 obtain ⟨i012, hi012, _, hsz12, _⟩ := info_parts info3
 obtain ⟨A12, hcut12, hA12, hC12⟩ := print_drop_of (P := Tryd.prog) (Value.int .i64) 0 31 3 .i64 Tryd.underlying31 hi012 hsz12 A0 c0 l0 (ji6) (od zb) (od zb) HC0.out
 have HR276 := aS (Kd.C_of_reads (h1 := fun _ => rfl) (hA12 _ (Kd.reads_of_C HR0.out)))
 have HC276 := aS hC12
 clear hA12 hC12 hi012 hsz12
 refine start_ (n := 11) (S := fun w' => True) (ds := []) #[false, false, false, false, false, false, false, false, false, false, false] (by kernel_rfl) rfl rfl trivial (fun hHeld => ?_); refine with_tabW clerestoryref1_without.tab1 clerestoryref1_without.bits1 (fun HT_ HW_ => ?_)
 generalize w.drew = w10 at HB HR272 HR276 hHeld ⊢
 refine q0o (i := 1) (N := some 6) (v := ?_) (a' := ?_) #[false, true, false, false, false, false, false, false, false, false, false] rfl rfl (q1c HT_.out (by kernel_rfl)) (fun _ _ _ h => h) (Or.inl ⟨by rfl, ?_⟩) ?_ ?_
 rotate_left
 ·intro w'
  go_simp
  with_reducible rfl
 rotate_left
 ·simp only [Act.put, s1, s2, s3, q0g, q0h]
  rfl
 refine q0o (i := 2) (N := some 7) (v := ?_) (a' := ?_) #[false, true, true, false, false, false, false, false, false, false, false] rfl rfl (q1c HT_.out (by kernel_rfl)) (fun _ _ _ h => h) (Or.inl ⟨by rfl, ?_⟩) ?_ ?_
 rotate_left
 ·intro w'
  go_simp
  with_reducible rfl
 rotate_left
 ·simp only [Act.put, s1, s2, s3, q0g, q0h]
  rfl
 refine q0o (i := 3) (N := some 8) (v := ?_) (a' := ?_) #[false, true, true, true, false, false, false, false, false, false, false] rfl rfl (q1c HT_.out (by kernel_rfl)) (fun _ _ _ h => h) (Or.inl ⟨by rfl, ?_⟩) ?_ ?_
 rotate_left
 ·intro w'
  go_simp
  with_reducible rfl
 rotate_left
 ·simp only [Act.put, s1, s2, s3, q0g, q0h]
  rfl
 refine q0o (i := 5) (N := some 10) (v := ?_) (a' := ?_) #[false, true, true, true, false, true, false, false, false, false, false] rfl rfl (q1c HT_.out (by kernel_rfl)) (fun _ _ _ h => h) (Or.inl ⟨by rfl, ?_⟩) ?_ ?_
 rotate_left
 ·intro w'
  go_simp
  with_reducible rfl
 rotate_left
 ·simp only [Act.put, s1, s2, s3, q0g, q0h]
  rfl
 refine q0o (i := 6) (N := some 11) (v := ?_) (a' := ?_) #[false, true, true, true, false, true, true, false, false, false, false] rfl rfl (q1c HT_.out (by kernel_rfl)) (fun _ _ _ h => h) (Or.inl ⟨by rfl, ?_⟩) ?_ ?_
 rotate_left
 ·intro w'
  go_simp
  with_reducible rfl
 rotate_left
 ·simp only [Act.put, s1, s2, s3, q0g, q0h]
  rfl
 refine q0o (i := 7) (N := some 12) (v := ?_) (a' := ?_) #[false, true, true, true, false, true, true, true, false, false, false] rfl rfl (q1c HT_.out (by kernel_rfl)) (fun _ _ _ h => h) (Or.inl ⟨by rfl, ?_⟩) ?_ ?_
 rotate_left
 ·intro w'
  go_simp
  with_reducible rfl
 rotate_left
 ·simp only [Act.put, s1, s2, s3, q0g, q0h]
  rfl
 refine q0o (i := 8) (N := some 13) (v := ?_) (a' := ?_) #[false, true, true, true, false, true, true, true, true, false, false] rfl rfl (q1c HT_.out (by kernel_rfl)) (fun _ _ _ h => h) (Or.inl ⟨by rfl, ?_⟩) ?_ ?_
 rotate_left
 ·intro w'
  go_simp
  with_reducible rfl
 rotate_left
 ·simp only [Act.put, s1, s2, s3, q0g, q0h]
  rfl
 refine one_ (i := 0) (N := some 5) #[true, true, true, true, false, true, true, true, true, false, false] rfl rfl (one_of HT_.out (by kernel_rfl)) (by decide) (fun K hK => ?_)
 refine Kd.R_lit_step (Kd.int .i64) _ 3 ?hg (N := 5) ?hd (xs := ([] : List Int)) (inner := []) (ok := fun _ => True) (okp := fun _ => True) ?hr ?hp (fun _ hk => hk) trivial (Below.refl _ _) (Nat.le_refl _) (by simp) ?_; (case hd => rfl); (case hg => rfl); (case hr => first | (go_simp; done) | (go_simp; rfl)); (case hp => exact (Reps.none _ _))
 intro v270 w13 ho14 hb hg_ hnew_
 clear hg_ hnew_
 (first | rw [← Ny269.out] at ho14 | (simp only [Int.reduceToNat] at ho14; rw [← Ny269.out] at ho14))
 have n0_ := aS (Kd.R_lower ho14 (q03 (z7 HB.out)))
 have n1_ := aS (q02 (z7 HB.out) hb)
 clear HB
 have HO271 := n0_
 have HB := n1_
 clear n0_ n1_
 clear hb ho14
 refine hK.out _ _ trivial (fun hHeld => ?_)
 clear hK K
 refine q1v (a' := ?_) ?_ ?_
 rotate_left
 ·show Act.put _ (some 5) _ = _
  simp only [Act.put, s1, s2, s3, q0g, q0h]
  rfl
 refine one_ (i := 4) (N := some 9) #[true, true, true, true, true, true, true, true, true, false, false] rfl rfl (one_of HT_.out (by kernel_rfl)) (by decide) (fun K hK => ?_)
 refine Kd.R_append_rows_step (Kd.int .i64) (w0 := w) w.heap.size (by rfl) (.tmp 5) (.tmp 8) 31 3 (.int .i64 0) 8 rfl Tryd.underlying31 info3 rfl (by decide) (by omega) v270 y269 (l0.take (a1 : Int).toNat) _ _ _ (fun _ => True) (fun _ => False) rfl rfl ?aO ?aR (fun _ _ h => h) (fun _ h => h.elim) ?aF ?aB ?aS ?aL ?_
 (case aR => first | (have h_ := Kd.C_below HR272.out HB.out; rw [HSL272.out] at h_; exact h_) | (rw [← show (l0.take (a1 : Int).toNat).length = a1.toNat from HSL272.out]; repeat (first | exact (Kd.C_below HR272.out HB.out) | (with_reducible refine cA ?_ _) | (with_reducible refine cN ?_ _) | (with_reducible refine cD ?_))) | (repeat (first | exact (Kd.C_below HR272.out HB.out) | (with_reducible refine cA ?_ _) | (with_reducible refine cN ?_ _) | (with_reducible refine cD ?_))))
 (case aB => exact (z7 HB.out))
 (case aF => exact (fun _ _ => trivial))
 (case aO => exact (zf HO271.out))
 (case aS => exact (q03 (z7 HB.out)))
 (case aL => have := LMc5.out; have hlx_ := (show (l0.take (a1 : Int).toNat).length = a1.toNat from HSL272.out); omega)
 intro v274 w15 ho hb hg hat
 rw [← Ny273.out] at ho
 have n0_ := aS (hb)
 have n1_ := aS (ho)
 clear HB
 clear HO271
 have HB := n0_
 have HO275 := n1_
 clear n0_ n1_
 clear ho hb hg hat
 refine hK.out _ _ trivial (fun hHeld => ?_)
 clear hK K
 refine q1v (a' := ?_) ?_ ?_
 rotate_left
 ·show Act.put _ (some 9) _ = _
  simp only [Act.put, s1, s2, s3, q0g, q0h]
  rfl
 refine one_ (i := 9) (N := some 14) #[true, true, true, true, true, true, true, true, true, true, false] rfl rfl (one_of HT_.out (by kernel_rfl)) (by decide) (fun K hK => ?_)
 refine Kd.R_append_rows_step (Kd.int .i64) (w0 := w) w.heap.size (by rfl) (.tmp 9) (.tmp 13) 31 3 (.int .i64 0) 8 rfl Tryd.underlying31 info3 rfl (by decide) (by omega) v274 y273 (l0.drop ((ji6) : Int).toNat) _ _ _ (fun _ => True) (fun _ => False) rfl rfl ?aO ?aR (fun _ _ h => h) (fun _ h => h.elim) ?aF ?aB ?aS ?aL ?_
 (case aR => first | (rw [← show (l0.drop ((ji6) : Int).toNat).length = (l0.length - (ji6).toNat) from List.length_drop]; repeat (first | exact (Kd.C_below HR276.out HB.out) | (with_reducible refine cA ?_ _) | (with_reducible refine cN ?_ _) | (with_reducible refine cD ?_))) | (repeat (first | exact (Kd.C_below HR276.out HB.out) | (with_reducible refine cA ?_ _) | (with_reducible refine cN ?_ _) | (with_reducible refine cD ?_))))
 (case aB => exact (z7 HB.out))
 (case aF => exact (fun _ _ => trivial))
 (case aO => exact (zf HO275.out))
 (case aS => exact (q03 (z7 HB.out)))
 (case aL => have := LMc9.out; have hlx_ := (show (l0.drop ((ji6) : Int).toNat).length = (l0.length - (ji6).toNat) from List.length_drop); omega)
 intro v278 w16 ho hb hg hat
 rw [← Ny277.out] at ho
 have n0_ := aS (hb)
 have n1_ := aS (ho)
 clear HB
 clear HO275
 have HB := n0_
 have HO279 := n1_
 clear n0_ n1_
 clear ho hb hg hat
 refine hK.out _ _ trivial (fun hHeld => ?_)
 clear hK K
 refine q1v (a' := ?_) ?_ ?_
 rotate_left
 ·show Act.put _ (some 14) _ = _
  simp only [Act.put, s1, s2, s3, q0g, q0h]
  rfl
 refine q0o (i := 10) (N := some 4) (v := ?_) (a' := ?_) #[true, true, true, true, true, true, true, true, true, true, true] rfl rfl (q1c HT_.out (by kernel_rfl)) (fun _ _ _ h => h) (Or.inl ⟨by rfl, ?_⟩) ?_ ?_
 rotate_left
 ·intro w'
  go_simp
  with_reducible rfl
 rotate_left
 ·simp only [Act.put, s1, s2, s3, q0g, q0h]
  rfl
 refine done_ (done_of HT_.out (by kernel_rfl)) ?_
 try go_wp2
 go_ret
 exact ⟨_, by first | rfl | (simp [q05, q04] <;> rfl) | (simp only [← hji6]; first | rfl | (simp [q05, q04] <;> rfl)) | (simp [*, q05, q04] <;> rfl), by (with_reducible repeat (first | apply rA | apply rN | apply rD)); exact HO279.out, by repeat (first | (with_reducible first | exact HB.out | apply bA | apply bN | apply bD) | exact HB.out)⟩
end Go.Proofs.YthjnallbbhnndaaDoor.XDe
namespace Go.Proofs.YthjnallbbhnndaaDoor.XDe
open Go.Proofs.YthjnallbbhnndaaDoor.Short Go.RowKit Go.Proofs.YthjnallbbhnndaaDoorW.PrintWords Go.Proofs.YthjnallbbhnndaaDoorW.PrintLast Go.Proofs.YthjnallbbhnndaaDoorW.PrintMore
attribute [local go_sem] q16 q14 q1g q1f q0v q0u q15 q13   -- for this text's walks alone
set_option linter.unusedVariables false
set_option linter.unusedSimpArgs false
def q0w (w0 W : World) (T g b c : Nat) (ns : List S43) (q : Bool) : Prop :=
 W.heap[g]? = some (.cells #[.slice (some ⟨b, 0, none⟩) ns.length c, .bool q] 24 (0, 0)) ∧ w0.heap.size ≤ g ∧ Kd.S k43 43 W w0.heap.size (fun k => k ≠ g ∧ k < T) (.slice (some ⟨b, 0, none⟩) ns.length c) ns
theorem q0w.ge {w0 W : World} {T g b c : Nat} {ns : List S43} {q : Bool} (h : q0w w0 W T g b c ns q) : w0.heap.size ≤ b ∧ b ≠ g ∧ b < T :=
 ⟨Kd.S_base h.2.2 b (by simp [Value.ownBlock]), ((Kd.S_R h.2.2).1 b (by simp [Value.ownBlock])).1, ((Kd.S_R h.2.2).1 b (by simp [Value.ownBlock])).2⟩
theorem q0w.below {w0 W W1 : World} {T g b c : Nat} {ns : List S43} {q : Bool} (h : q0w w0 W T g b c ns q) (hb : Below W.heap.size W W1) : q0w w0 W1 T g b c ns q :=
 ⟨(hb.block g (q09 h.1)).trans h.1, h.2.1, Kd.S_below h.2.2 hb⟩
theorem q0w.far {w0 W : World} {T g b c : Nat} {ns : List S43} {q : Bool} (h : q0w w0 W T g b c ns q) {p : Addr} (hp : T ≤ p.block) (hg : g < T) (u : Value) : q0w w0 (W.setCell p u) T g b c ns q :=
 ⟨(Below.heap_setCell W p u g (by omega)).trans h.1, h.2.1, Kd.S_far h.2.2 (fun k hk => by have := hk.2; omega) u⟩
theorem q0w.grown {w0 W W1 : World} {T g b c : Nat} {ns : List S43} {q : Bool} (h : q0w w0 W T g b c ns q) {row : Option Nat} (hg : W.grownBy W1 row) (hr : ∀ k, row = some k → T ≤ k) (hT : g < T) : q0w w0 W1 T g b c ns q :=
 ⟨(hg.block g (q09 h.1) (fun e => by have := hr g e.symm; omega)).trans h.1, h.2.1, Kd.S_step h.2.2 (fun k hk hlt => hg.block k hlt (fun e => by have := hr k e.symm; have := hk.2; omega))⟩
theorem q0w.elem {w0 W : World} {T g b c : Nat} {ns : List S43} {q : Bool} (h : q0w w0 W T g b c ns q) (i : Int) (h0 : 0 ≤ i) (h1 : i < (ns.length : Int)) :
 ∃ A2 c2 A5 c5, W.cell? ⟨b, i.toNat * 6, none⟩ = some (.int .i64 (q00 ns i).f0) ∧ W.cell? ⟨b, i.toNat * 6 + 1, none⟩ = some (.string (q00 ns i).f1) ∧ W.cell? ⟨b, i.toNat * 6 + 2, none⟩ = some (.slice A2 (q00 ns i).f2.length c2) ∧ W.cell? ⟨b, i.toNat * 6 + 3, none⟩ = some (.string (q00 ns i).f3) ∧ W.cell? ⟨b, i.toNat * 6 + 4, none⟩ = some (.int .i64 (q00 ns i).f4) ∧ W.cell? ⟨b, i.toNat * 6 + 5, none⟩ = some (.slice A5 (q00 ns i).f5.length c5) ∧
  Aside0 ((q00 ns i).f2.length ≤ c2) ∧ Aside0 (k122.C W A2 (q00 ns i).f2.length (q00 ns i).f2) ∧ Aside0 ((q00 ns i).f5.length ≤ c5) ∧ Aside0 ((Kd.int .i64).C W A5 (q00 ns i).f5.length (q00 ns i).f5) ∧ (∀ j, W.frozen? ⟨b, i.toNat * 6 + j, none⟩ = false) := by
 obtain ⟨oki, cs, _, hM, hc, hfz, _, _⟩ := Kd.S_elem h.2.2 z43 i h0 h1
 obtain ⟨v2, v5, rfl, g2, g5⟩ := q27 hM
 obtain ⟨A2, c2, rfl⟩ := Kd.R_slice g2
 obtain ⟨A5, c5, rfl⟩ := Kd.R_slice g5
 have r2 := Kd.R_reads' g2
 have r5 := Kd.R_reads' g5
 exact ⟨A2, c2, A5, c5, hc 0 _ rfl, hc 1 _ rfl, hc 2 _ rfl, hc 3 _ rfl, hc 4 _ rfl, hc 5 _ rfl, ⟨r2.2.1⟩, ⟨r2.2.2⟩, ⟨r5.2.1⟩, ⟨r5.2.2⟩, hfz⟩
theorem q0w.par {w0 W : World} {T g b c : Nat} {ns : List S43} {q : Bool} (h : q0w w0 W T g b c ns q) (i : Int) (h0 : 0 ≤ i) (h1 : i < (ns.length : Int)) (p : Int) :
 q0w w0 (W.setCell ⟨b, i.toNat * 6 + 4, none⟩ (.int .i64 p)) T g b c (ns.set i.toNat { q00 ns i with f4 := p }) q := by
 obtain ⟨oki, cs, _, hM0, hc, hfz, hok, hH⟩ := Kd.S_elem h.2.2 z43 i h0 h1
 obtain ⟨v2, v5, rfl, g2, g5⟩ := q27 hM0
 obtain ⟨s1, _⟩ := Kd.S_seg0 hH h0 h1 (seg := [.int .i64 p]) (j := 4) (show 4 + 1 ≤ 6 by decide) (q28 W w0.heap.size oki { q00 ns i with f4 := p } g2 g5) (fun _ hk => hk)
 have hne := h.ge.2.1
 refine ⟨(Below.heap_setCell W _ _ g (fun e => hne e.symm)).trans ?_, h.2.1, ?_⟩
 ·rw [List.length_set]; exact h.1
 ·rw [List.length_set]; exact s1
theorem q0w.whole {w0 W : World} {T T' g b c : Nat} {ns : List S43} {q : Bool} (h : q0w w0 W T g b c ns q) (hT : T ≤ T') (i : Int) (h0 : 0 ≤ i) (h1 : i < (ns.length : Int)) (x' : S43) (u2 u5 : Value)
 (h2 : W.cell? ⟨b, i.toNat * 6 + 2, none⟩ = some u2 ∧ x'.f2 = (q00 ns i).f2 ∨ k122.R 122 W w0.heap.size (fun k => T ≤ k ∧ k < T' ∧ k ≠ g) u2 x'.f2)
 (h5 : W.cell? ⟨b, i.toNat * 6 + 5, none⟩ = some u5 ∧ x'.f5 = (q00 ns i).f5 ∨ (Kd.int .i64).R 3 W w0.heap.size (fun k => T ≤ k ∧ k < T' ∧ k ≠ g) u5 x'.f5) :
 q0w w0 (W.setCells b (i.toNat * 6) [.int .i64 x'.f0, .string x'.f1, u2, .string x'.f3, .int .i64 x'.f4, u5]) T' g b c (ns.set i.toNat x') q := by
 obtain ⟨oki, cs, _, hM0, hc, hfz, hok, hH⟩ := Kd.S_elem h.2.2 z43 i h0 h1
 obtain ⟨v2, v5, rfl, g2, g5⟩ := q27 hM0
 have hb := h.ge
 have k2 : k122.R 122 W w0.heap.size (fun k => oki k ∨ (T ≤ k ∧ k < T' ∧ k ≠ g)) u2 x'.f2 := by
  rcases h2 with ⟨hcl, e⟩ | hr
  ·have := (hc 2 _ rfl).symm.trans hcl
   injection this with this
   rw [e, ← this]
   exact Kd.R_mono g2 (fun _ hk => .inl hk)
  ·exact Kd.R_mono hr (fun _ hk => .inr hk)
 have k5 : (Kd.int .i64).R 3 W w0.heap.size (fun k => oki k ∨ (T ≤ k ∧ k < T' ∧ k ≠ g)) u5 x'.f5 := by
  rcases h5 with ⟨hcl, e⟩ | hr
  ·have := (hc 5 _ rfl).symm.trans hcl
   injection this with this
   rw [e, ← this]
   exact Kd.R_mono g5 (fun _ hk => .inl hk)
  ·exact Kd.R_mono hr (fun _ hk => .inr hk)
 have hH2 : Kd.H k43 43 W w0.heap.size (fun k => (k ≠ g ∧ k < T') ∧ ¬ (T ≤ k ∧ k < T' ∧ k ≠ g)) (.slice (some ⟨b, 0, none⟩) ns.length c) ns i oki _ := Kd.H_mono hH (fun k hk => ⟨⟨hk.1, by have := hk.2; omega⟩, fun hh => by have := hk.2; omega⟩)
 obtain ⟨s1, sg⟩ := Kd.S_seg (ok := fun k => k ≠ g ∧ k < T') (okg := fun k => T ≤ k ∧ k < T' ∧ k ≠ g) hH2 h0 h1 (seg := [.int .i64 x'.f0, .string x'.f1, u2, .string x'.f3, .int .i64 x'.f4, u5]) (j := 0) (show 0 + 6 ≤ 6 by decide) (x' := x') (by exact q28 W w0.heap.size _ x' k2 k5) (fun _ hk => hk) (fun k hk => ⟨⟨hk.2.2, hk.2.1⟩, fun e => by have := hb.2.2; omega⟩)
 refine ⟨(sg.block g (q09 h.1) (fun e => by injection e with e; exact hb.2.1 e.symm)).trans ?_, h.2.1, ?_⟩
 ·rw [List.length_set]; exact h.1
 ·rw [List.length_set]; exact s1
theorem q0w.kids {w0 W : World} {T T' g b c : Nat} {ns : List S43} {q : Bool} (h : q0w w0 W T g b c ns q) (hT : T ≤ T') (i : Int) (h0 : 0 ≤ i) (h1 : i < (ns.length : Int)) (l' : List Int) (u5 : Value) (h5 : (Kd.int .i64).R 3 W w0.heap.size (fun k => T ≤ k ∧ k < T' ∧ k ≠ g) u5 l') :
 q0w w0 (W.setCell ⟨b, i.toNat * 6 + 5, none⟩ u5) T' g b c (ns.set i.toNat { q00 ns i with f5 := l' }) q := by
 obtain ⟨oki, cs, _, hM0, hc, hfz, hok, hH⟩ := Kd.S_elem h.2.2 z43 i h0 h1
 obtain ⟨v2, v5, rfl, g2, g5⟩ := q27 hM0
 have hb := h.ge
 have hH2 : Kd.H k43 43 W w0.heap.size (fun k => (k ≠ g ∧ k < T') ∧ ¬ (T ≤ k ∧ k < T' ∧ k ≠ g)) (.slice (some ⟨b, 0, none⟩) ns.length c) ns i oki _ := Kd.H_mono hH (fun k hk => ⟨⟨hk.1, by have := hk.2; omega⟩, fun hh => by have := hk.2; omega⟩)
 obtain ⟨s1, sg⟩ := Kd.S_seg (ok := fun k => k ≠ g ∧ k < T') (okg := fun k => T ≤ k ∧ k < T' ∧ k ≠ g) hH2 h0 h1 (seg := [u5]) (j := 5) (show 5 + 1 ≤ 6 by decide) (x' := { q00 ns i with f5 := l' }) (q28 W w0.heap.size _ { q00 ns i with f5 := l' } (Kd.R_mono g2 (fun _ hk => .inl hk)) (Kd.R_mono h5 (fun _ hk => .inr hk))) (fun _ hk => hk) (fun k hk => ⟨⟨hk.2.2, hk.2.1⟩, fun e => by have := hb.2.2; omega⟩)
 refine ⟨(Below.heap_setCell W _ _ g (fun e => hb.2.1 e.symm)).trans ?_, h.2.1, ?_⟩
 ·rw [List.length_set]; exact h.1
 ·rw [List.length_set]; exact s1
theorem below_c {W w7 : World} (h : Below W.drew.heap.size W.drew w7) : Below W.heap.size W w7 := q02 (q0j (Below.refl _ _)) h
theorem q0w.start {w0 w8 w9 : World} {g b c : Nat} {ns : List S43} {q : Bool} (hs : Kd.S k43 43 w8 w0.heap.size (fun _ => True) (.slice (some ⟨b, 0, none⟩) ns.length c) ns) (hb : Below w8.heap.size w8 w9) (h0 : w0.heap.size ≤ g) (hg : w8.heap.size ≤ g)
 (hk : w9.heap[g]? = some (.cells #[.slice none 0 0, .bool false] 24 (0, 0))) : q0w w0 ((w9.setCell ⟨g, 0, none⟩ (.slice (some ⟨b, 0, none⟩) ns.length c)).setCell ⟨g, 1, none⟩ (.bool q)) w9.heap.size g b c ns q :=
 have h1 : Kd.S k43 43 w9 w0.heap.size (fun k => k ≠ g ∧ k < w9.heap.size) (.slice (some ⟨b, 0, none⟩) ns.length c) ns := Kd.S_below (Kd.S_mono (Kd.S_bound hs) (fun k hk => ⟨fun e => by have := hk.2.2.1; omega, Nat.lt_of_lt_of_le hk.2.2.1 hb.size⟩)) hb
 ⟨(q0p (q0p hk 0 _) 1 _).trans rfl, h0, Kd.S_far (Kd.S_far h1 (fun _ hk => hk.1) _) (fun _ hk => hk.1) _⟩
theorem q0w.push {w0 W : World} {g b8 c8 : Nat} {v0 : Value} {ns : List S43} {p : S43} {q : Bool} (hs : Kd.S k43 43 W w0.heap.size (fun k => k ≠ g) (.slice (some ⟨b8, 0, none⟩) (ns.length + 1) c8) (ns ++ [p])) (hb : W.heap[g]? = some (.cells #[v0, .bool q] 24 (0, 0))) (hg : w0.heap.size ≤ g) :
 q0w w0 (W.setCell ⟨g, 0, none⟩ (.slice (some ⟨b8, 0, none⟩) (ns.length + 1) c8)) W.heap.size g b8 c8 (ns ++ [p]) q := by
 have hl : (ns ++ [p]).length = ns.length + 1 := by rw [List.length_append]; rfl
 refine ⟨?_, hg, ?_⟩
 ·rw [hl]; exact (q0p hb 0 _).trans rfl
 ·rw [hl]; exact Kd.S_far (Kd.S_mono (Kd.S_bound hs) (fun k hk => ⟨hk.1, hk.2.2.1⟩)) (fun _ hk => hk.1) _
def InEd (w0 W : World) (T g gx b c : Nat) (ns : List S43) (q : Bool) (n : Int) (cs : Array Value) (A2 : Option Addr) (c2 : Nat) (A5 : Option Addr) (c5 : Nat) : Prop :=
 q0w w0 W T g b c ns q ∧ W.heap[gx]? = some (.cells cs 43 (0, 0)) ∧ W.cell? ⟨b, n.toNat * 6 + 2, none⟩ = some (.slice A2 (q00 ns n).f2.length c2) ∧ W.cell? ⟨b, n.toNat * 6 + 5, none⟩ = some (.slice A5 (q00 ns n).f5.length c5) ∧ T ≤ gx ∧ g < T
section
variable {w0 W W1 : World} {T g gx b c : Nat} {ns : List S43} {q : Bool} {n : Int} {cs : Array Value} {A2 : Option Addr} {c2 : Nat} {A5 : Option Addr} {c5 : Nat}
theorem InEd.same (h : InEd w0 W T g gx b c ns q n cs A2 c2 A5 c5) (hI : q0w w0 W1 T g b c ns q) (hx : W1.heap[gx]? = W.heap[gx]?) (hb : W1.heap[b]? = W.heap[b]?) : InEd w0 W1 T g gx b c ns q n cs A2 c2 A5 c5 := by
 refine ⟨hI, hx.trans h.2.1, ?_, ?_, h.2.2.2.2⟩
 ·have := h.2.2.1
  unfold World.cell? at this ⊢
  rw [show W1.heap[(⟨b, n.toNat * 6 + 2, none⟩ : Addr).block]? = W.heap[(⟨b, n.toNat * 6 + 2, none⟩ : Addr).block]? from hb]
  exact this
 ·have := h.2.2.2.1
  unfold World.cell? at this ⊢
  rw [show W1.heap[(⟨b, n.toNat * 6 + 5, none⟩ : Addr).block]? = W.heap[(⟨b, n.toNat * 6 + 5, none⟩ : Addr).block]? from hb]
  exact this
theorem InEd.below (h : InEd w0 W T g gx b c ns q n cs A2 c2 A5 c5) (hb : Below W.heap.size W W1) : InEd w0 W1 T g gx b c ns q n cs A2 c2 A5 c5 :=
 h.same (q0w.below h.1 hb) (hb.block gx (q09 h.2.1)) (hb.block b (World.block_lt_of_cell? _ _ h.2.2.1))
theorem InEd.far (h : InEd w0 W T g gx b c ns q n cs A2 c2 A5 c5) {p : Addr} (hp : T ≤ p.block) (hx : p.block ≠ gx) (u : Value) : InEd w0 (W.setCell p u) T g gx b c ns q n cs A2 c2 A5 c5 :=
 h.same (q0w.far h.1 hp h.2.2.2.2.2 u) (Below.heap_setCell W p u gx (fun e => hx e.symm)) (Below.heap_setCell W p u b (fun e => by have := h.1.ge.2.2; omega))
theorem InEd.grown (h : InEd w0 W T g gx b c ns q n cs A2 c2 A5 c5) {row : Option Nat} (hg : W.grownBy W1 row) (hr : ∀ k, row = some k → T ≤ k ∧ k ≠ gx) : InEd w0 W1 T g gx b c ns q n cs A2 c2 A5 c5 :=
 h.same (q0w.grown h.1 hg (fun k hk => (hr k hk).1) h.2.2.2.2.2) (hg.block gx (q09 h.2.1) (fun e => (hr gx e.symm).2 rfl)) (hg.block b (World.block_lt_of_cell? _ _ h.2.2.1) (fun e => by have := (hr b e.symm).1; have := h.1.ge.2.2; omega))
theorem InEd.attrs (h : InEd w0 W T g gx b c ns q n cs A2 c2 A5 c5) (h0 : 0 ≤ n) (h1 : n < (ns.length : Int)) : Kd.C k122 W A2 (q00 ns n).f2.length (q00 ns n).f2 ∧ (q00 ns n).f2.length ≤ c2 := by
 obtain ⟨A2', c2', _, _, _, _, x2, _, _, _, l2, C2, _, _, _⟩ := q0w.elem h.1 n h0 h1
 have := x2.symm.trans h.2.2.1
 injection this with this
 injection this with e1 _ e2
 rw [← e1, ← e2]
 exact ⟨C2.out, l2.out⟩
theorem InEd.kids (h : InEd w0 W T g gx b c ns q n cs A2 c2 A5 c5) (h0 : 0 ≤ n) (h1 : n < (ns.length : Int)) : Kd.C (Kd.int .i64) W A5 (q00 ns n).f5.length (q00 ns n).f5 ∧ (q00 ns n).f5.length ≤ c5 := by
 obtain ⟨_, _, A5', c5', _, _, _, _, _, x5, _, _, l5, C5, _⟩ := q0w.elem h.1 n h0 h1
 have := x5.symm.trans h.2.2.2.1
 injection this with this
 injection this with e1 _ e2
 rw [← e1, ← e2]
 exact ⟨C5.out, l5.out⟩
end
theorem q0w.there {w0 W : World} {T g b c : Nat} {ns : List S43} {q : Bool} (h : q0w w0 W T g b c ns q) (i : Int) (h0 : 0 ≤ i) (h1 : i < (ns.length : Int)) : W.there b (i.toNat * 6) 6 := by
 obtain ⟨A2, c2, A5, c5, x0, x1, x2, x3, x4, x5, -, -, -, -, hfz⟩ := h.elem i h0 h1
 intro j hj
 refine ⟨?_, hfz j⟩
 have : j = 0 ∨ j = 1 ∨ j = 2 ∨ j = 3 ∨ j = 4 ∨ j = 5 := by omega
 rcases this with rfl | rfl | rfl | rfl | rfl | rfl
 ·rw [Nat.add_zero, x0]; rfl
 ·rw [x1]; rfl
 ·rw [x2]; rfl
 ·rw [x3]; rfl
 ·rw [x4]; rfl
 ·rw [x5]; rfl
theorem q1q {w0 : World} {b : Nat} (hb : w0.heap.size ≤ b) : ∀ (l : List Value) (o : Nat) {W : World}, Below w0.heap.size w0 W → Below w0.heap.size w0 (W.setCells b o l)
 | [], _, _, h => h
 | v :: r, o, W, h => q1q hb r (o + 1) (q0f (j := o) (v := v) h hb)
theorem InEd.putx {w0 W : World} {T g gx b c : Nat} {ns : List S43} {q : Bool} {n : Int} {cs cs' : Array Value} {A2 : Option Addr} {c2 : Nat} {A5 : Option Addr} {c5 : Nat} (h : InEd w0 W T g gx b c ns q n cs A2 c2 A5 c5) (j : Nat) (u : Value) (hcs : cs.setIfInBounds j u = cs') : InEd w0 (W.setCell ⟨gx, j, none⟩ u) T g gx b c ns q n cs' A2 c2 A5 c5 := by
 have hb : (W.setCell ⟨gx, j, none⟩ u).heap[b]? = W.heap[b]? := Below.heap_setCell W _ u b (fun e => by have := h.1.ge.2.2; have := h.2.2.2.2.1; have e : b = gx := e; omega)
 refine ⟨q0w.far h.1 h.2.2.2.2.1 h.2.2.2.2.2 u, (q0p h.2.1 j u).trans (by rw [hcs]), ?_, ?_, h.2.2.2.2⟩
 ·have := h.2.2.1
  unfold World.cell? at this ⊢
  rw [show (W.setCell ⟨gx, j, none⟩ u).heap[(⟨b, n.toNat * 6 + 2, none⟩ : Addr).block]? = W.heap[(⟨b, n.toNat * 6 + 2, none⟩ : Addr).block]? from hb]
  exact this
 ·have := h.2.2.2.1
  unfold World.cell? at this ⊢
  rw [show (W.setCell ⟨gx, j, none⟩ u).heap[(⟨b, n.toNat * 6 + 5, none⟩ : Addr).block]? = W.heap[(⟨b, n.toNat * 6 + 5, none⟩ : Addr).block]? from hb]
  exact this
theorem InEd.gxge {w0 W : World} {T g gx b c : Nat} {ns : List S43} {q : Bool} {n : Int} {cs : Array Value} {A2 : Option Addr} {c2 : Nat} {A5 : Option Addr} {c5 : Nat} (h : InEd w0 W T g gx b c ns q n cs A2 c2 A5 c5) : w0.heap.size ≤ gx :=
 Nat.le_trans h.1.2.1 (Nat.le_trans (Nat.le_of_lt h.2.2.2.2.2) h.2.2.2.2.1)
theorem below_of_wi {w0 wi W : World} (h : Below wi.heap.size wi W) (_ : Below w0.heap.size w0 W) : Below wi.heap.size wi W := h
theorem InEd.blk {w0 W : World} {T g gx b c : Nat} {ns : List S43} {q : Bool} {n : Int} {cs : Array Value} {A2 : Option Addr} {c2 : Nat} {A5 : Option Addr} {c5 : Nat} (h : InEd w0 W T g gx b c ns q n cs A2 c2 A5 c5) : W.heap[gx]? = some (.cells cs 43 (0, 0)) := h.2.1
theorem InEd.tg {w0 W : World} {T g gx b c : Nat} {ns : List S43} {q : Bool} {n : Int} {cs : Array Value} {A2 : Option Addr} {c2 : Nat} {A5 : Option Addr} {c5 : Nat} (h : InEd w0 W T g gx b c ns q n cs A2 c2 A5 c5) : T ≤ gx := h.2.2.2.2.1
theorem setCell_comm (w : World) (p q : Addr) (u v : Value) (h : p.block ≠ q.block) : (w.setCell p u).setCell q v = (w.setCell q v).setCell p u := by
 unfold World.setCell
 congr 1
 apply Array.ext_getElem?
 intro i
 simp only [Array.getElem?_modify]
 by_cases c : p.block = i
 ·by_cases d : q.block = i
  ·exact absurd (c.trans d.symm) h
  ·simp only [if_pos c, if_neg d]
 ·by_cases d : q.block = i
  ·simp only [if_neg c, if_pos d]
  ·simp only [if_neg c, if_neg d]
theorem rd_set_ne (ns : List S43) (a : Int) (x : S43) (i : Int) (ha : 0 ≤ a) (hi : 0 ≤ i) (hne : a ≠ i) : q00 (ns.set a.toNat x) i = q00 ns i := by
 simp [q00, List.getD, List.getElem?_set, show ¬ a.toNat = i.toNat by omega]
def edl0 (nm u : ByteArray) (d : Int) : Nat → Int → List S122 → List S122 → Bool → Option (List S122 × Bool)
 | 0, _, _, _, _ => none
 | k + 1, i, xs, o, st => if i < (xs.length : Int) then (if 0 ≤ i then
  (if (q06 xs i).f0.toList = nm.toList then (if d = 1 then (if o.length < 4398046511104 then edl0 nm u d k (wrap64 (i + 1)) xs (o ++ [⟨(q06 xs i).f0, u⟩]) true else none) else if d = 2 then edl0 nm u d k (wrap64 (i + 1)) xs o st else (if o.length < 4398046511104 then edl0 nm u d k (wrap64 (i + 1)) xs (o ++ [⟨(q06 xs i).f0, (q06 xs i).f1⟩]) st else none))
   else (if o.length < 4398046511104 then edl0 nm u d k (wrap64 (i + 1)) xs (o ++ [⟨(q06 xs i).f0, (q06 xs i).f1⟩]) st else none)) else none) else some (o, st)
def edMid (k : Nat) (o : List S43) (d n t2 bf : Int) (nm u : ByteArray) : Option (List S43) :=
 if 0 ≤ n ∧ n < (o.length : Int) then (edl0 nm u d k 0 (q00 o n).f2 [] false).bind fun p =>
  (if d = 1 then (if p.2 = true then some (o.set n.toNat { q00 o n with f2 := p.1 }) else if p.1.length < 4398046511104 then some (o.set n.toNat { q00 o n with f2 := p.1 ++ [⟨nm, u⟩] }) else none)
   else if d = 2 then some (o.set n.toNat { q00 o n with f2 := p.1 })
   else if d = 3 then some (o.set n.toNat { q00 o n with f3 := u })
   else if d = 5 then (if 0 ≤ t2 ∧ t2 < (o.length : Int) ∧ t2 ≠ n then
    ((if bf = -1 then some ((q00 o n).f5.length : Int) else clerestoryref1_placeIn.f k (q00 o n).f5 bf).bind fun i => if 0 ≤ i ∧ i ≤ ((q00 o n).f5.length : Int) ∧ (q00 o n).f5.length ≤ 1000000 then
     some ((o.set t2.toNat { q00 o t2 with f4 := n }).set n.toNat { q00 o n with f5 := (q00 o n).f5.take i.toNat ++ t2 :: (q00 o n).f5.drop i.toNat }) else none) else none)
   else if d = 6 then (if 0 ≤ (q00 o n).f4 ∧ (q00 o n).f4 < (o.length : Int) ∧ (q00 o n).f4 ≠ n then
    (clerestoryref1_placeIn.f k (q00 o (q00 o n).f4).f5 n).bind fun i => (clerestoryref1_without.f (q00 o (q00 o n).f4).f5 i).bind fun l =>
     some ((o.set (q00 o n).f4.toNat { q00 o (q00 o n).f4 with f5 := l }).set n.toNat { q00 o n with f4 := -1 }) else none)
   else some (o.set n.toNat (q00 o n))) else none
def q1s (k : Nat) (o : List S43) (e0 e1 e2 e3 : Int) (e4 e5 : ByteArray) (e6 : Int) (e7 : ByteArray) (l8 : List S122) (e9 : ByteArray) : Option (List S43 × Int) :=
 if e0 = 4 then (if o.length ≤ 1000000 ∧ l8.length < 4398046511104 then some (o ++ [⟨e6, e7, l8, e9, -1, []⟩], (o.length : Int)) else none) else (edMid k o e0 e1 e2 e3 e4 e5).bind fun p => some (p, 0)
def clerestoryref1_Edited.f (k : Nat) (l0 : List S43) (q : Bool) (e0 e1 e2 e3 : Int) (e4 e5 : ByteArray) (e6 : Int) (e7 : ByteArray) (l8 : List S122) (e9 : ByteArray) (e10 : Int) (l11 : List Int) : Option (List S43 × Bool × Int × Int) :=
 (clerestoryref1_EditErr.f k l0 q e0 e1 e2 e3 e4 e5 e6 e7 l8 e9 e10 l11).bind fun r => if r ≠ 0 then some ([], false, 0, r) else (clerestoryref1_copyDoc.f k l0 q).bind fun o => if 0 < o.1.length then
  (q1s k o.1 e0 e1 e2 e3 e4 e5 e6 e7 l8 e9).bind fun p => (clerestoryref1_DocErr.f k p.1 o.2).bind fun t => if t ≠ 0 then some ([], false, 0, 2) else some (p.1, o.2, p.2, 0) else none
set_option maxHeartbeats 16000000 in
set_option maxRecDepth 100000 in
theorem clerestoryref1_Edited.calls (k : Nat) (A0 : Option Addr) (c0 : Nat) (l0 : List S43) (q : Bool) (e0 e1 e2 e3 : Int) (e4 e5 : ByteArray) (e6 : Int) (e7 : ByteArray) (A8 : Option Addr) (c8 : Nat) (l8 : List S122) (e9 : ByteArray) (e10 : Int) (A11 : Option Addr) (c11 : Nat) (l11 : List Int) (r1 : List S43) (r2 : Bool) (r3 r4 : Int) (w : World) (hr0 : Kd.C k43 w A0 l0.length l0) (hc0 : l0.length ≤ c0) (hC8 : Kd.C k122 w A8 l8.length l8) (hL8 : l8.length ≤ c8) (hC11 : Kd.C (Kd.int .i64) w A11 l11.length l11) (hL11 : l11.length ≤ c11) (h : clerestoryref1_Edited.f k l0 q e0 e1 e2 e3 e4 e5 e6 e7 l8 e9 e10 l11 = some (r1, r2, r3, r4)) :
 Calls Tryd.prog 56 #[.agg #[.slice A0 l0.length c0, .bool q], .agg #[.int .i64 e0, .int .i64 e1, .int .i64 e2, .int .i64 e3, .string e4, .string e5, .int .i64 e6, .string e7, .slice A8 l8.length c8, .string e9, .int .i64 e10, .slice A11 l11.length c11]] w fun e w' => ∃ v0_ : Value, e = .returned (.tuple #[.agg #[v0_, .bool r2], .int .i64 r3, .int .i64 r4]) ∧ Kd.S k43 43 w' w.heap.size (fun _ => True) v0_ r1 ∧ Below w.heap.size w w' := by
 have hu24 := Tryd.underlying24
 have hu43 := Tryd.underlying43
 have hu87 := Tryd.underlying87
 have hu122 := Tryd.underlying122
 have HC := aS hr0
 have HL := aS hc0
 have HC8 := aS hC8
 have HL8 := aS hL8
 have HC11 := aS hC11
 have HL11 := aS hL11
 clear hr0 hc0 hC8 hL8 hC11 hL11
 unfold clerestoryref1_Edited.f at h
 obtain ⟨r, hr, h⟩ := Option.bind_eq_some_iff.1 h
 have HE := aS hr
 clear hr
 by_cases z : r ≠ 0
 ·have h2 := (if_pos z).symm.trans h
  clear h
  simp only [Option.some.injEq, Prod.mk.injEq] at h2
  obtain ⟨rfl, rfl, rfl, rfl⟩ := h2
  have z1 : (r != 0) = true := bne_iff_ne.mpr z
  clear z
  go_enter Tryd.func56, Tryd.ntmps56
  go_upto_region 1 with (first | ((with_reducible refine q07 (N := 2) rfl ?_); refine box1 rfl (N := 2) rfl (cs := #[.slice A0 l0.length c0, .bool q]) (t := 24) zh ?_; intro gd wd DK GD DS) | ((with_reducible refine q07 (N := 3) rfl ?_); refine box1 rfl (N := 3) rfl (cs := #[.int .i64 e0, .int .i64 e1, .int .i64 e2, .int .i64 e3, .string e4, .string e5, .int .i64 e6, .string e7, .slice A8 l8.length c8, .string e9, .int .i64 e10, .slice A11 l11.length c11]) (t := 87) zh ?_; intro ge we EK GE ES) | ((with_reducible refine q07 (N := 4) rfl ?_); refine box1 rfl (N := 4) rfl (cs := #[.slice none 0 0, .bool false]) (t := 24) zh ?_; intro gr wr RK GS RS))
  have HB := aS (q02 (q02 DS.out ES.out) RS.out)
  have GR := aS (show w.heap.size ≤ gr from Nat.le_trans (Below.size DS.out) (Nat.le_trans (Below.size ES.out) GS.out))
  have DK1 := aS (q01 (q01 DK.out ES.out) RS.out)
  have EK1 := aS (q01 EK.out RS.out)
  clear DK EK DS ES RS GS GD GE
  have DK := DK1
  have EK := EK1
  clear DK1 EK1
  obtain ⟨hd0, hd1, -, -⟩ := bk2 DK.out
  obtain ⟨hr0, hr1, hrf0, hrf1⟩ := bk2 RK.out
  obtain ⟨ha0, ha1, ha2, ha3, ha4, ha5, ha6, ha7, ha8, ha9, ha10, ha11⟩ := bk12 EK.out
  go_wp2_with (go_at_call 106; refine (clerestoryref1_EditErr.calls k A0 c0 l0 q e0 e1 e2 e3 e4 e5 e6 e7 A8 c8 l8 e9 e10 A11 c11 l11 r _ (Kd.C_below HC.out HB.out) HL.out (Kd.C_below HC8.out HB.out) HL8.out (Kd.C_below HC11.out HB.out) HL11.out HE.out).mono ?_; rintro e w7 ⟨rfl, hbl⟩; have HB7 := aS (q02 HB.out hbl); have DK7 := aS (q01 DK.out hbl); have EK7 := aS (q01 EK.out hbl); have RK7 := aS (q01 RK.out hbl); clear HB DK EK RK; clear hd0 hd1 hr0 hr1 hrf0 hrf1 ha0 ha1 ha2 ha3 ha4 ha5 ha6 ha7 ha8 ha9 ha10 ha11; have HB := HB7; have DK := DK7; have EK := EK7; have RK := RK7; clear HB7 DK7 EK7 RK7; obtain ⟨hd0, hd1, -, -⟩ := bk2 DK.out; obtain ⟨hr0, hr1, hrf0, hrf1⟩ := bk2 RK.out; obtain ⟨ha0, ha1, ha2, ha3, ha4, ha5, ha6, ha7, ha8, ha9, ha10, ha11⟩ := bk12 EK.out; clear hbl)
  refine bodyPost_ret (results_ctt rfl _ _ gr 24 #[.slice none 0 0, .bool false] (0, 0) _ rfl (q0p (q0p RK.out 0 _) 1 _) Tryd.underlying24 rfl (by kernel_rfl)) rfl ?_
  exact ⟨_, rfl, Kd.S_nil _ _ _ _ _, q0f (q0f HB.out GR.out) GR.out⟩
 ·have h2 := (if_neg z).symm.trans h
  clear h
  obtain rfl : r = 0 := Classical.not_not.1 z
  clear z
  obtain ⟨⟨o, q2⟩, ho, h2⟩ := Option.bind_eq_some_iff.1 h2
  have HO := aS ho
  clear ho
  refine iGp h2 ?_
  clear h2
  intro hp h2
  have HP : Aside0 (0 < o.length) := ⟨hp⟩
  clear hp
  obtain ⟨⟨p1, p2⟩, hn, h2⟩ := Option.bind_eq_some_iff.1 h2
  have HN : Aside0 (q1s k o e0 e1 e2 e3 e4 e5 e6 e7 l8 e9 = some (p1, p2)) := ⟨hn⟩
  clear hn
  obtain ⟨t, ht, h2⟩ := Option.bind_eq_some_iff.1 h2
  have HT : Aside0 (clerestoryref1_DocErr.f k p1 q2 = some t) := ⟨ht⟩
  have H2 : Aside0 ((if t ≠ 0 then some (([] : List S43), false, (0 : Int), (2 : Int)) else some (p1, q2, p2, 0)) = some (r1, r2, r3, r4)) := ⟨h2⟩
  clear ht h2
  go_enter Tryd.func56, Tryd.ntmps56
  go_upto_region 1 with (first | ((with_reducible refine q07 (N := 2) rfl ?_); refine box1 rfl (N := 2) rfl (cs := #[.slice A0 l0.length c0, .bool q]) (t := 24) zh ?_; intro gd wd DK GD DS) | ((with_reducible refine q07 (N := 3) rfl ?_); refine box1 rfl (N := 3) rfl (cs := #[.int .i64 e0, .int .i64 e1, .int .i64 e2, .int .i64 e3, .string e4, .string e5, .int .i64 e6, .string e7, .slice A8 l8.length c8, .string e9, .int .i64 e10, .slice A11 l11.length c11]) (t := 87) zh ?_; intro ge we EK GE ES) | ((with_reducible refine q07 (N := 4) rfl ?_); refine box1 rfl (N := 4) rfl (cs := #[.slice none 0 0, .bool false]) (t := 24) zh ?_; intro gr wr RK GS RS))
  have HB := aS (q02 (q02 DS.out ES.out) RS.out)
  have GR := aS (show w.heap.size ≤ gr from Nat.le_trans (Below.size DS.out) (Nat.le_trans (Below.size ES.out) GS.out))
  have DK1 := aS (q01 (q01 DK.out ES.out) RS.out)
  have EK1 := aS (q01 EK.out RS.out)
  clear DK EK DS ES RS GS GD GE
  have DK := DK1
  have EK := EK1
  clear DK1 EK1
  obtain ⟨hd0, hd1, -, -⟩ := bk2 DK.out
  obtain ⟨hr0, hr1, hrf0, hrf1⟩ := bk2 RK.out
  obtain ⟨ha0, ha1, ha2, ha3, ha4, ha5, ha6, ha7, ha8, ha9, ha10, ha11⟩ := bk12 EK.out
  go_upto_region 6 with (first | (go_at_call 106; refine (clerestoryref1_EditErr.calls k A0 c0 l0 q e0 e1 e2 e3 e4 e5 e6 e7 A8 c8 l8 e9 e10 A11 c11 l11 0 _ (Kd.C_below HC.out HB.out) HL.out (Kd.C_below HC8.out HB.out) HL8.out (Kd.C_below HC11.out HB.out) HL11.out HE.out).mono ?_; rintro e w7 ⟨rfl, hbl⟩; have HB7 := aS (q02 HB.out hbl); have DK7 := aS (q01 DK.out hbl); have EK7 := aS (q01 EK.out hbl); have RK7 := aS (q01 RK.out hbl); clear HB DK EK RK; clear hd0 hd1 hr0 hr1 hrf0 hrf1 ha0 ha1 ha2 ha3 ha4 ha5 ha6 ha7 ha8 ha9 ha10 ha11; have HB := HB7; have DK := DK7; have EK := EK7; have RK := RK7; clear HB7 DK7 EK7 RK7; obtain ⟨hd0, hd1, -, -⟩ := bk2 DK.out; obtain ⟨hr0, hr1, hrf0, hrf1⟩ := bk2 RK.out; obtain ⟨ha0, ha1, ha2, ha3, ha4, ha5, ha6, ha7, ha8, ha9, ha10, ha11⟩ := bk12 EK.out; clear hbl) | (go_at_call 107; refine (clerestoryref1_copyDoc.calls k A0 c0 l0 q o q2 _ (Kd.C_below HC.out HB.out) HL.out HO.out).mono ?_; rintro e w8 ⟨v8, rfl, hs8, hbl⟩; obtain ⟨b, cap, e8_, -, -, -⟩ := Kd.R_form (Kd.S_R hs8) HP.out; subst e8_; have HW := aS HB.out; have EK0 := aS EK.out; have RK0 := aS RK.out; have HS8 := aS (show Kd.S k43 43 w8 w7.heap.size (fun _ => True) (.slice (some ⟨b, 0, none⟩) o.length cap) o from hs8); have HB8 := aS (show Below w7.heap.size w7 w8 from hbl); clear HB DK EK RK hs8 hbl; clear hd0 hd1 hr0 hr1 hrf0 hrf1 ha0 ha1 ha2 ha3 ha4 ha5 ha6 ha7 ha8 ha9 ha10 ha11) | ((with_reducible refine q07 (N := 8) rfl ?_); refine box1 rfl (N := 8) rfl (cs := #[.slice none 0 0, .bool false]) (t := 24) zh ?_; intro g w9 GK GG GS; have GK1 := bk2 GK.out; obtain ⟨hg0, hg1, hgf0, hgf1⟩ := GK1))
  have HI := aS (q0w.start (q := q2) HS8.out GS.out (Nat.le_trans (Below.size HB8.out) GG.out) GG.out GK.out)
  have HB9 := aS (q0f (j := 1) (v := .bool q2) (q0f (j := 0) (v := .slice (some ⟨b, 0, none⟩) o.length cap) (q02 HB8.out GS.out) (Nat.le_trans (Below.size HB8.out) GG.out)) (Nat.le_trans (Below.size HB8.out) GG.out))
  have HG := aS (q09 GK.out)
  have HTA := aS (show w9.heap.size ≤ ((w9.setCell ⟨g, 0, none⟩ (.slice (some ⟨b, 0, none⟩) o.length cap)).setCell ⟨g, 1, none⟩ (.bool q2)).heap.size by simp)
  clear hg0 hg1 hgf0 hgf1 GK GG GS HB8 HS8
  generalize (w9.setCell ⟨g, 0, none⟩ (.slice (some ⟨b, 0, none⟩) o.length cap)).setCell ⟨g, 1, none⟩ (.bool q2) = wA at HI HB9 HTA ⊢
  generalize w9.heap.size = T at HI HG HTA
  have EK1 := aS (q01 EK0.out HB9.out)
  obtain ⟨ha0, ha1, ha2, ha3, ha4, ha5, ha6, ha7, ha8, ha9, ha10, ha11⟩ := bk12 EK1.out
  go_upto_if 28 with (fail)
  go_cut [9] (fun v9 wq => v9 = .int .i64 p2 ∧ Aside0 (∃ T b c, q0w w7 wq T g b c p1 q2) ∧ Aside0 (Below w7.heap.size w7 wq))
  case first =>
   clear HT H2
   have hn := HN.out
   unfold q1s at hn
   by_cases z4 : e0 = 4
   ·replace hn := (if_pos z4).symm.trans hn
    have y4 : (e0 == 4) = true := beq_iff_eq.mpr z4
    clear z4
    refine iGp hn ?_
    clear hn
    intro ⟨c1, c2⟩ hn
    have c1 := aS c1
    have c2 := aS c2
    simp only [Option.some.injEq, Prod.mk.injEq] at hn
    obtain ⟨rfl, rfl⟩ := hn
    obtain ⟨hz0, hz1, -, -⟩ := bk2 HI.out.1
    refine wp_cond (t := (e0 == 4)) rfl ?_
    rw [y4, if_pos rfl]
    go_upto_region 8 with (fail)
    clear hz1 ha0 ha1 ha2 ha3 ha4 ha5 ha10 ha11
    refine start_ (n := 21) (S := fun w' => w'.cell? ⟨g, 0, none⟩ = some (.slice (some ⟨b, 0, none⟩) o.length cap) ∧ w'.cell? ⟨ge, 6, none⟩ = some (.int .i64 e6) ∧ w'.cell? ⟨ge, 7, none⟩ = some (.string e7) ∧ w'.cell? ⟨ge, 8, none⟩ = some (.slice A8 l8.length c8) ∧ w'.cell? ⟨ge, 9, none⟩ = some (.string e9)) (ds := [18, 20]) #[false, false, false, false, false, false, false, false, false, false, false, false, false, false, false, false, false, false, false, false, false] (by kernel_rfl) rfl rfl ⟨hz0, ha6, ha7, ha8, ha9⟩ (fun hHeld => ?_)
    refine q0o (i := 0) (N := some 32) (v := ?_) (a' := ?_) #[true, false, false, false, false, false, false, false, false, false, false, false, false, false, false, false, false, false, false, false, false] rfl rfl (by kernel_rfl) (fun _ _ _ h => h) (Or.inl ⟨by rfl, ?_⟩) ?_ ?_
    rotate_left
    ·intro w'
     go_simp
     with_reducible rfl
    rotate_left
    ·simp only [Act.put, s1, s2, s3, q0g, q0h]
     rfl
    refine q0o (i := 2) (N := some 34) (v := ?_) (a' := ?_) #[true, false, true, false, false, false, false, false, false, false, false, false, false, false, false, false, false, false, false, false, false] rfl rfl (by kernel_rfl) (fun _ _ _ h => h) (Or.inl ⟨by rfl, ?_⟩) ?_ ?_
    rotate_left
    ·intro w'
     go_simp
     with_reducible rfl
    rotate_left
    ·simp only [Act.put, s1, s2, s3, q0g, q0h]
     rfl
    refine q0o (i := 3) (N := some 35) (v := ?_) (a' := ?_) #[true, false, true, true, false, false, false, false, false, false, false, false, false, false, false, false, false, false, false, false, false] rfl rfl (by kernel_rfl) (fun _ _ _ h => h) (Or.inl ⟨by rfl, ?_⟩) ?_ ?_
    rotate_left
    ·intro w'
     go_simp
     with_reducible rfl
    rotate_left
    ·simp only [Act.put, s1, s2, s3, q0g, q0h]
     rfl
    refine q0o (i := 5) (N := some 37) (v := ?_) (a' := ?_) #[true, false, true, true, false, true, false, false, false, false, false, false, false, false, false, false, false, false, false, false, false] rfl rfl (by kernel_rfl) (fun _ _ _ h => h) (Or.inl ⟨by rfl, ?_⟩) ?_ ?_
    rotate_left
    ·intro w'
     go_simp
     with_reducible rfl
    rotate_left
    ·simp only [Act.put, s1, s2, s3, q0g, q0h]
     rfl
    refine q0o (i := 6) (N := some 38) (v := ?_) (a' := ?_) #[true, false, true, true, false, true, true, false, false, false, false, false, false, false, false, false, false, false, false, false, false] rfl rfl (by kernel_rfl) (fun _ _ _ h => h) (Or.inl ⟨by rfl, ?_⟩) ?_ ?_
    rotate_left
    ·intro w'
     go_simp
     with_reducible rfl
    rotate_left
    ·simp only [Act.put, s1, s2, s3, q0g, q0h]
     rfl
    refine q0o (i := 9) (N := some 41) (v := ?_) (a' := ?_) #[true, false, true, true, false, true, true, false, false, true, false, false, false, false, false, false, false, false, false, false, false] rfl rfl (by kernel_rfl) (fun _ _ _ h => h) (Or.inl ⟨by rfl, ?_⟩) ?_ ?_
    rotate_left
    ·intro w'
     go_simp
     with_reducible rfl
    rotate_left
    ·simp only [Act.put, s1, s2, s3, q0g, q0h]
     rfl
    refine q0o (i := 10) (N := some 42) (v := ?_) (a' := ?_) #[true, false, true, true, false, true, true, false, false, true, true, false, false, false, false, false, false, false, false, false, false] rfl rfl (by kernel_rfl) (fun _ _ _ h => h) (Or.inl ⟨by rfl, ?_⟩) ?_ ?_
    rotate_left
    ·intro w'
     go_simp
     with_reducible rfl
    rotate_left
    ·simp only [Act.put, s1, s2, s3, q0g, q0h]
     rfl
    refine q0o (i := 13) (N := some 45) (v := ?_) (a' := ?_) #[true, false, true, true, false, true, true, false, false, true, true, false, false, true, false, false, false, false, false, false, false] rfl rfl (by kernel_rfl) (fun _ _ _ h => h) (Or.inl ⟨by rfl, ?_⟩) ?_ ?_
    rotate_left
    ·intro w'
     go_simp
     with_reducible rfl
    rotate_left
    ·simp only [Act.put, s1, s2, s3, q0g, q0h]
     rfl
    refine q0o (i := 14) (N := some 46) (v := ?_) (a' := ?_) #[true, false, true, true, false, true, true, false, false, true, true, false, false, true, true, false, false, false, false, false, false] rfl rfl (by kernel_rfl) (fun _ _ _ h => h) (Or.inl ⟨by rfl, ?_⟩) ?_ ?_
    rotate_left
    ·intro w'
     go_simp
     with_reducible rfl
    rotate_left
    ·simp only [Act.put, s1, s2, s3, q0g, q0h]
     rfl
    refine take_ (i := 1) (N := some 33) (v := ?_) (a' := ?_) #[true, true, true, true, false, true, true, false, false, true, true, false, false, true, true, false, false, false, false, false, false] rfl rfl (by kernel_rfl) (fun _ _ _ h => h) (Or.inl ⟨by rfl, ?_⟩) hHeld ?_ ?_
    rotate_left
    ·rintro w' ⟨s0, s1, s2, s3, s4⟩
     go_simp
     with_reducible rfl
    rotate_left
    ·simp only [Act.put, s1, s2, s3, q0g, q0h]
     rfl
    refine take_ (i := 4) (N := some 36) (v := ?_) (a' := ?_) #[true, true, true, true, true, true, true, false, false, true, true, false, false, true, true, false, false, false, false, false, false] rfl rfl (by kernel_rfl) (fun _ _ _ h => h) (Or.inl ⟨by rfl, ?_⟩) hHeld ?_ ?_
    rotate_left
    ·rintro w' ⟨s0, s1, s2, s3, s4⟩
     go_simp
     with_reducible rfl
    rotate_left
    ·simp only [Act.put, s1, s2, s3, q0g, q0h]
     rfl
    refine take_ (i := 7) (N := some 39) (v := ?_) (a' := ?_) #[true, true, true, true, true, true, true, true, false, true, true, false, false, true, true, false, false, false, false, false, false] rfl rfl (by kernel_rfl) (fun _ _ _ h => h) (Or.inl ⟨by rfl, ?_⟩) hHeld ?_ ?_
    rotate_left
    ·rintro w' ⟨s0, s1, s2, s3, s4⟩
     go_simp
     with_reducible rfl
    rotate_left
    ·simp only [Act.put, s1, s2, s3, q0g, q0h]
     rfl
    refine take_ (i := 11) (N := some 43) (v := ?_) (a' := ?_) #[true, true, true, true, true, true, true, true, false, true, true, true, false, true, true, false, false, false, false, false, false] rfl rfl (by kernel_rfl) (fun _ _ _ h => h) (Or.inl ⟨by rfl, ?_⟩) hHeld ?_ ?_
    rotate_left
    ·rintro w' ⟨s0, s1, s2, s3, s4⟩
     go_simp
     with_reducible rfl
    rotate_left
    ·simp only [Act.put, s1, s2, s3, q0g, q0h]
     rfl
    refine take_ (i := 15) (N := some 47) (v := ?_) (a' := ?_) #[true, true, true, true, true, true, true, true, false, true, true, true, false, true, true, true, false, false, false, false, false] rfl rfl (by kernel_rfl) (fun _ _ _ h => h) (Or.inl ⟨by rfl, ?_⟩) hHeld ?_ ?_
    rotate_left
    ·rintro w' ⟨s0, s1, s2, s3, s4⟩
     go_simp
     with_reducible rfl
    rotate_left
    ·simp only [Act.put, s1, s2, s3, q0g, q0h]
     rfl
    refine one_ (i := 8) (N := some 40) #[true, true, true, true, true, true, true, true, true, true, true, true, false, true, true, true, false, false, false, false, false] rfl rfl (by kernel_rfl) (by decide) (fun K hK => ?_)
    refine Kd.R_lit_step k122 _ 122 ?hg (N := 40) ?hd (xs := ([] : List S122)) (inner := []) (ok := fun _ => True) (okp := fun _ => True) ?hr ?hp (fun _ hk => hk) trivial (Below.refl _ _) (Nat.le_refl _) (by simp) ?_; (case hd => rfl); (case hg => rfl); (case hr => first | (go_simp; done) | (go_simp; rfl)); (case hp => exact (Reps.none _ _))
    intro v40 w12 ho12 hb12 hg_ hnew_
    clear hg_ hnew_
    have hbA := below_c hb12
    have HR12 : Aside0 (k122.R 122 w12 w7.heap.size (fun k => T ≤ k) v40 []) := ⟨Kd.R_mono (Kd.R_lower (Kd.R_bound ho12) (by have hsA_ : w7.heap.size ≤ wA.heap.size := Below.size HB9.out; exact hsA_)) (fun k hk => by have hk_ : wA.heap.size ≤ k := hk.2.1; exact Nat.le_trans HTA.out hk_)⟩
    have HI12 := aS (q0w.below HI.out hbA)
    have HB12 := aS (q02 HB9.out hbA)
    have HS12 := aS (Below.size hbA)
    clear ho12 hb12 hbA
    clear hz0 ha6 ha7 ha8 ha9
    obtain ⟨hz0, -, -, -⟩ := bk2 HI12.out.1
    obtain ⟨-, -, -, -, -, -, ha6, ha7, ha8, ha9, -, -⟩ := bk12 (q01 EK0.out HB12.out)
    refine hK.out _ _ ⟨hz0, ha6, ha7, ha8, ha9⟩ (fun hHeld => ?_)
    clear hK K
    refine q1v (a' := ?_) ?_ ?_
    rotate_left
    ·show Act.put _ (some 40) _ = _
     simp only [Act.put, s1, s2, s3, q0g, q0h]
     rfl
    refine one_ (i := 12) (N := some 44) #[true, true, true, true, true, true, true, true, true, true, true, true, true, true, true, true, false, false, false, false, false] rfl rfl (by kernel_rfl) (by decide) (fun K hK => ?_)
    refine Kd.R_append_rows_step k122 (w0 := w7) w7.heap.size (by rfl) (.tmp 40) (.tmp 43) 41 122 (.agg #[(.string ⟨#[]⟩), (.string ⟨#[]⟩)]) 32 rfl Tryd.underlying41 q1u rfl (by decide) (by omega) v40 ([] : List S122) l8 _ _ _ (fun k => T ≤ k) (fun _ => False) rfl rfl ?aO ?aR (fun _ _ h => h) (fun _ h => h.elim) ?aF ?aB ?aS ?aL ?_
    (case aR => exact Kd.C_below HC8.out (q02 HW.out HB12.out))
    (case aB => exact HB12.out)
    (case aF => exact fun k hk => Nat.le_trans HTA.out (Nat.le_trans HS12.out hk))
    (case aO => exact HR12.out)
    (case aS => exact Below.size HB12.out)
    (case aL => have := c2.out; simp only [List.length_nil, Nat.zero_add]; omega)
    intro v44 w13 ho hb hg hat
    rw [List.nil_append] at ho
    obtain ⟨A44, c44, e44_⟩ := Kd.R_slice ho
    subst e44_
    have HI13 := aS (q0w.grown HI12.out hg (fun k hk => HR12.out.1 k hk) HG.out)
    have HB13 := aS hb
    have HR13 := aS ho
    clear hb hg hat ho
    clear hz0 ha6 ha7 ha8 ha9
    obtain ⟨hz0, -, -, -⟩ := bk2 HI13.out.1
    obtain ⟨-, -, -, -, -, -, ha6, ha7, ha8, ha9, -, -⟩ := bk12 (q01 EK0.out HB13.out)
    refine hK.out _ _ ⟨hz0, ha6, ha7, ha8, ha9⟩ (fun hHeld => ?_)
    clear hK K
    refine q1v (a' := ?_) ?_ ?_
    rotate_left
    ·show Act.put _ (some 44) _ = _
     simp only [Act.put, s1, s2, s3, q0g, q0h]
     rfl
    refine q0o (i := 16) (N := some 48) (v := ?_) (a' := ?_) #[true, true, true, true, true, true, true, true, true, true, true, true, true, true, true, true, true, false, false, false, false] rfl rfl (by kernel_rfl) (fun _ _ _ h => h) (Or.inl ⟨by rfl, ?_⟩) ?_ ?_
    rotate_left
    ·intro w'
     go_simp
     with_reducible rfl
    rotate_left
    ·simp only [Act.put, s1, s2, s3, q0g, q0h]
     rfl
    refine one_ (i := 17) (N := some 49) #[true, true, true, true, true, true, true, true, true, true, true, true, true, true, true, true, true, true, false, false, false] rfl rfl (by kernel_rfl) (by decide) (fun K hK => ?_)
    refine value_ (w1 := ?_) (v := ?_) (by rfl) rfl ?_ ?_
    rotate_left 2
    ·go_simp
     constructor
     ·rfl
     ·rfl
    refine hK.out _ _ ⟨Lib.cell?_alloc_some _ hz0, Lib.cell?_alloc_some _ ha6, Lib.cell?_alloc_some _ ha7, Lib.cell?_alloc_some _ ha8, Lib.cell?_alloc_some _ ha9⟩ (fun hHeld => ?_)
    clear hK K
    refine q1v (a' := ?_) ?_ ?_
    rotate_left
    ·show Act.put _ (some 49) _ = _
     simp only [Act.put, s1, s2, s3, q0g, q0h]
     rfl
    refine last_ (i := 18) (N := some 50) #[true, true, true, true, true, true, true, true, true, true, true, true, true, true, true, true, true, true, true, false, false] rfl rfl (by kernel_rfl) (by decide) (fun K hK => ?_)
    refine Kd.S_append_step k43 (w0 := w7) (W := w13) w7.heap.size (by rfl) (.tmp 33) (.tmp 49) 22 43 (.agg #[.int .i64 0, .string (⟨#[]⟩ : ByteArray), .slice none 0 0, .string (⟨#[]⟩ : ByteArray), .int .i64 0, .slice none 0 0]) 96 rfl Tryd.underlying22 info43 rfl (by decide) (by decide) (.slice (some ⟨b, 0, none⟩) o.length cap) o (⟨e6, e7, l8, e9, -1, []⟩ : S43) [.int .i64 e6, .string e7, .slice A44 l8.length c44, .string e9, .int .i64 (-1), .slice none 0 0] (fun k => k ≠ g) (fun k => T ≤ k) rfl rfl ?aP ?aK ?aF ?aO HB13.out HB13.out.size ?aL ?_
    case aP => exact q28 _ _ _ (⟨e6, e7, l8, e9, -1, []⟩ : S43) HR13.out (Kd.R_nil _ _ _ _ _)
    case aK => exact fun k hk => ⟨(fun e_ => by have := HG.out; have h2_ : T ≤ k := hk; omega), (fun e_ => by have h1_ := HI13.out.ge.2.2; have h2_ : T ≤ k := hk; have h3_ : k = b := (by simpa [Value.ownBlock] using e_); omega)⟩
    case aF => exact fun k hk => (fun e_ => by have h1_ := q09 HI13.out.1; omega)
    case aO => exact Kd.S_mono HI13.out.2.2 (fun k hk => ⟨hk.1, Nat.not_le.2 hk.2⟩)
    case aL => (have := c1.out; omega)
    intro v15 w15 hs8 hbl8 hg8 hat8
    obtain ⟨b8, cap8, e8_, -, -, -⟩ := Kd.R_form (Kd.S_R hs8) (by simp)
    rw [show (o ++ [(⟨e6, e7, l8, e9, -1, []⟩ : S43)]).length = o.length + 1 from by rw [List.length_append]; rfl] at e8_
    subst e8_
    have hk8 := (hg8.block g (q09 HI13.out.1) (fun e_ => HI13.out.ge.2.1 (by simpa [Value.ownBlock] using e_.symm))).trans HI13.out.1
    have HS8 := aS hs8
    have HB8 := aS hbl8
    have HK8 := aS hk8
    clear hs8 hbl8 hg8 hat8 hk8 hz0 ha6 ha7 ha8 ha9
    obtain ⟨hz0, hz1, hzf0, hzf1⟩ := bk2 HK8.out
    refine hK.out _ _ ?_
    clear hK K
    refine q1v (a' := ?_) ?_ ?_
    rotate_left
    ·show Act.put _ (some 50) _ = _
     simp only [Act.put, s1, s2, s3, q0g, q0h]
     rfl
    refine q0o (i := 19) (N := some 51) (v := ?_) (a' := ?_) #[true, true, true, true, true, true, true, true, true, true, true, true, true, true, true, true, true, true, true, true, false] rfl rfl (by kernel_rfl) (fun _ _ _ h => h) (Or.inl ⟨by rfl, ?_⟩) ?_ ?_
    rotate_left
    ·intro w'
     go_simp
     with_reducible rfl
    rotate_left
    ·simp only [Act.put, s1, s2, s3, q0g, q0h]
     rfl
    refine last_ (i := 20) (N := none) #[true, true, true, true, true, true, true, true, true, true, true, true, true, true, true, true, true, true, true, true, true] rfl rfl (by kernel_rfl) (by decide) (fun K hK => ?_)
    refine skip_ (w1 := ?_) (by rfl) rfl ?_ ?_
    rotate_left
    ·go_simp
     rfl
    refine hK.out _ _ ?_
    clear hK K
    refine done_ (by kernel_rfl) ?_
    all_goals
     go_wp2
     go_meet
     exact ⟨rfl, ⟨⟨_, _, _, q0w.push HS8.out HK8.out HI.out.2.1⟩⟩, ⟨q0f HB8.out HI.out.2.1⟩⟩
   ·replace hn := (if_neg z4).symm.trans hn
    have y4 : (e0 == 4) = false := beq_eq_false_iff_ne.mpr z4
    clear z4
    obtain ⟨m, hm, hn⟩ := Option.bind_eq_some_iff.1 hn
    simp only [Option.some.injEq, Prod.mk.injEq] at hn
    obtain ⟨rfl, rfl⟩ := hn
    unfold edMid at hm
    refine iGp hm ?_
    clear hm
    intro ⟨n0, n1⟩ hm
    obtain ⟨⟨L, F⟩, hl, hm⟩ := Option.bind_eq_some_iff.1 hm
    have HLo : Aside0 (edl0 e4 e5 e0 k 0 (q00 o e1).f2 [] false = some (L, F)) := ⟨hl⟩
    have HM := aS hm
    have HN0 := aS n0
    have HN1 := aS n1
    clear hl hm HN
    obtain ⟨hz0, hz1, -, -⟩ := bk2 HI.out.1
    obtain ⟨A2, c2, A5, c5, x0, x1, x2, x3, x4, x5, -, -, -, -, -⟩ := q0w.elem HI.out e1 n0 n1
    have p0 := eq_true n0
    have p1 := eq_true n1
    clear n0 n1
    refine wp_cond (t := (e0 == 4)) rfl ?_
    rw [y4, if_neg Bool.false_ne_true]
    go_upto_region 10 with ((with_reducible refine q07 (N := 10) rfl ?_); refine box1 rfl (N := 10) rfl (cs := #[.int .i64 0, .string (⟨#[]⟩ : ByteArray), .slice none 0 0, .string (⟨#[]⟩ : ByteArray), .int .i64 0, .slice none 0 0]) (t := 43) zh ?_; intro gx wx XK GX XS; have hxx_ := bk6 XK.out; obtain ⟨hx0, hx1, hx2, hx3, hx4, hx5, hxf0, hxf1, hxf2, hxf3, hxf4, hxf5⟩ := hxx_)
    have HSX := aS (ed_sixo (.int .i64 (q00 o e1).f0) (.string (q00 o e1).f1) (.slice A2 (q00 o e1).f2.length c2) (.string (q00 o e1).f3) (.int .i64 (q00 o e1).f4) (.slice A5 (q00 o e1).f5.length c5) XS.out GX.out XK.out)
    have HIE : Aside0 (InEd w7 ((((((wx.setCell ⟨gx, 0, none⟩ (.int .i64 (q00 o e1).f0)).setCell ⟨gx, 1, none⟩ (.string (q00 o e1).f1)).setCell ⟨gx, 2, none⟩ (.slice A2 (q00 o e1).f2.length c2)).setCell ⟨gx, 3, none⟩ (.string (q00 o e1).f3)).setCell ⟨gx, 4, none⟩ (.int .i64 (q00 o e1).f4)).setCell ⟨gx, 5, none⟩ (.slice A5 (q00 o e1).f5.length c5)) T g gx b cap o q2 e1 #[.int .i64 (q00 o e1).f0, .string (q00 o e1).f1, .slice A2 (q00 o e1).f2.length c2, .string (q00 o e1).f3, .int .i64 (q00 o e1).f4, .slice A5 (q00 o e1).f5.length c5] A2 c2 A5 c5) := ⟨⟨q0w.below HI.out HSX.out.1, HSX.out.2, (HSX.out.1.cell (World.block_lt_of_cell? _ _ x2)).trans x2, (HSX.out.1.cell (World.block_lt_of_cell? _ _ x5)).trans x5, Nat.le_trans HTA.out GX.out, HG.out⟩⟩
    have HBX := aS (q02 HB9.out HSX.out.1)
    clear hx0 hx1 hx2 hx3 hx4 hx5 hxf0 hxf1 hxf2 hxf3 hxf4 hxf5 XK XS HSX hz0 hz1 x0 x1 x2 x3 x4 x5 ha0 ha1 ha2 ha3 ha4 ha5 ha6 ha7 ha8 ha9 ha10 ha11 EK1
    generalize ((((((wx.setCell ⟨gx, 0, none⟩ (.int .i64 (q00 o e1).f0)).setCell ⟨gx, 1, none⟩ (.string (q00 o e1).f1)).setCell ⟨gx, 2, none⟩ (.slice A2 (q00 o e1).f2.length c2)).setCell ⟨gx, 3, none⟩ (.string (q00 o e1).f3)).setCell ⟨gx, 4, none⟩ (.int .i64 (q00 o e1).f4)).setCell ⟨gx, 5, none⟩ (.slice A5 (q00 o e1).f5.length c5)) = wB at HIE HBX ⊢
    have HR0 : Aside0 (k122.R 122 wB w7.heap.size (fun k => T ≤ k ∧ k ≠ gx) (.slice none 0 0) []) := ⟨Kd.R_nil _ _ _ _ _⟩
    go_wp2
    go_loopg [13, 11, 12] k (fun kq v13 v11 v12 w' => ∃ (i : Int) (ll : List S122) (st : Bool), v13 = .int .i64 i ∧ v12 = .bool st ∧ Aside0 (edl0 e4 e5 e0 kq i (q00 o e1).f2 ll st = some (L, F)) ∧ Aside0 (kq ≤ k) ∧ Aside0 (InEd w7 w' T g gx b cap o q2 e1 #[.int .i64 (q00 o e1).f0, .string (q00 o e1).f1, .slice A2 (q00 o e1).f2.length c2, .string (q00 o e1).f3, .int .i64 (q00 o e1).f4, .slice A5 (q00 o e1).f5.length c5] A2 c2 A5 c5) ∧ Aside0 (k122.R 122 w' w7.heap.size (fun k => T ≤ k ∧ k ≠ gx) v11 ll) ∧ Aside0 (Below w7.heap.size w7 w'))
    case atStart => exact ⟨0, [], false, rfl, rfl, HLo, ⟨Nat.le_refl _⟩, HIE, HR0, HBX⟩
    case round =>
     clear HR0 HIE HBX HLo
     obtain ⟨i, ll, st, rfl, rfl, HA, HK1, HIE1, HR, HB1⟩ := hrel
     cases gk with
     | zero => exact absurd HA.out (by simp [edl0])
     | succ k1 =>
      have H := HA.out
      clear HA
      unfold edl0 at H
      have hqq_ := bk6 HIE1.out.2.1
      obtain ⟨hq0, hq1, hq2, hq3, hq4, hq5, hqf0, hqf1, hqf2, hqf3, hqf4, hqf5⟩ := hqq_
      obtain ⟨ha0, ha1, ha2, ha3, ha4, ha5, ha6, ha7, ha8, ha9, ha10, ha11⟩ := bk12 (q01 EK0.out HB1.out)
      refine iG H ?p10 ?n10 <;> clear H
      case' p10 => intro c10 H; have c10b : decide (i < ((q00 o e1).f2.length : Int)) = true := decide_eq_true c10; refine iGp H ?_; clear H; intro c11 H
      case' n10 => intro c10 H
      case p10 =>
       have hCC := HIE1.out.attrs HN0.out HN1.out
       obtain ⟨ad, e_, y0, y1⟩ := at_T122 hCC.1 i c11 c10
       clear hCC
       have c11b : decide (0 ≤ i) = true := decide_eq_true c11
       replace c10 := eq_true c10
       replace c11 := eq_true c11
       have HX1 := aS (q09 HIE1.out.2.1)
       have HT1 := aS (show T ≤ wr.heap.size from Nat.le_of_lt (Nat.lt_of_le_of_lt HIE1.out.2.2.2.2.1 HX1.out))
       subst e_
       have q1 : ∀ (x y : ByteArray), x.toList = y.toList → (x.toList == y.toList) = true := fun x y h => beq_iff_eq.mpr h
       by_cases cn : (q06 (q00 o e1).f2 i).f0.toList = e4.toList
       ·rw [if_pos cn] at H
        have cnb : ((q06 (q00 o e1).f2 i).f0.toList == e4.toList) = true := beq_iff_eq.mpr cn
        have cnb2 : ((q06 (q00 o e1).f2 i).f0.toList != e4.toList) = false := bne_eq_false_iff_eq.mpr cn
        clear cn
        by_cases d1 : e0 = 1
        ·rw [if_pos d1] at H
         have d1b : (e0 == 1) = true := beq_iff_eq.mpr d1
         have d2b : (e0 != 2) = true := bne_iff_ne.mpr (by omega)
         clear d1
         as_aux_lemma =>
          go_upto_region 16 with ((with_reducible refine q07 (N := 14) rfl ?_); refine box1 rfl (N := 14) rfl (cs := #[.string (⟨#[]⟩ : ByteArray), .string (⟨#[]⟩ : ByteArray)]) (t := 122) zh ?_; intro ga wa AK GA AS; obtain ⟨hy0, hy1, hyf0, hyf1⟩ := bk2 AK.out)
          have HI2 := aS (InEd.far (InEd.far (InEd.below HIE1.out AS.out) (p := ⟨ga, 0, none⟩) (Nat.le_trans HT1.out GA.out) (fun e_ => by have h1_ := HX1.out; have h2_ := GA.out; have h3_ : ga = gx := e_; omega) (.string (q06 (q00 o e1).f2 i).f0)) (p := ⟨ga, 1, none⟩) (Nat.le_trans HT1.out GA.out) (fun e_ => by have h1_ := HX1.out; have h2_ := GA.out; have h3_ : ga = gx := e_; omega) (.string (q06 (q00 o e1).f2 i).f1))
          have HR2 := aS (Kd.R_mono (Kd.R_far (Kd.R_far (Kd.R_below (Kd.R_bound HR.out) AS.out) (p := ⟨ga, 0, none⟩) (fun k hk e_ => by have h1_ := hk.2.2.1; have h2_ := GA.out; have h3_ : k = ga := e_; omega) (.string (q06 (q00 o e1).f2 i).f0)) (p := ⟨ga, 1, none⟩) (fun k hk e_ => by have h1_ := hk.2.2.1; have h2_ := GA.out; have h3_ : k = ga := e_; omega) (.string (q06 (q00 o e1).f2 i).f1)) (fun k hk => hk.1))
          have AK2 := aS (q0p (q0p AK.out 0 (.string (q06 (q00 o e1).f2 i).f0)) 1 (.string (q06 (q00 o e1).f2 i).f1))
          have GB := aS (show w7.heap.size ≤ ga from Nat.le_trans (Below.size HB1.out) GA.out)
          have HB2 := aS (q0f (j := 1) (v := .string (q06 (q00 o e1).f2 i).f1) (q0f (j := 0) (v := .string (q06 (q00 o e1).f2 i).f0) (q02 HB1.out AS.out) GB.out) GB.out)
          have HX2 := aS (show gx < ((wa.setCell ⟨ga, 0, none⟩ (.string (q06 (q00 o e1).f2 i).f0)).setCell ⟨ga, 1, none⟩ (.string (q06 (q00 o e1).f2 i).f1)).heap.size from q09 HI2.out.2.1)
          have GX2 := aS (show T ≤ ga ∧ ga ≠ gx from ⟨Nat.le_trans HT1.out GA.out, fun e_ => by have h1_ := HX1.out; have h2_ := GA.out; omega⟩)
          have GK2 := aS (show ∀ k, k < wr.heap.size → k ≠ ga from fun k hk e_ => by have h2_ := GA.out; omega)
          have HT2 := aS (show T ≤ ((wa.setCell ⟨ga, 0, none⟩ (.string (q06 (q00 o e1).f2 i).f0)).setCell ⟨ga, 1, none⟩ (.string (q06 (q00 o e1).f2 i).f1)).heap.size from Nat.le_trans HT1.out (by have h1_ := Below.size AS.out; simpa using h1_))
          have HL2 := aS (Kd.R_mono (Kd.R_far (Kd.R_far (Kd.R_below (Kd.R_bound HR.out) AS.out) (p := ⟨ga, 0, none⟩) (fun k hk e_ => by have h1_ := hk.2.2.1; have h2_ := GA.out; have h3_ : k = ga := e_; omega) (.string (q06 (q00 o e1).f2 i).f0)) (p := ⟨ga, 1, none⟩) (fun k hk e_ => by have h1_ := hk.2.2.1; have h2_ := GA.out; have h3_ : k = ga := e_; omega) (.string (q06 (q00 o e1).f2 i).f1)) (ok' := fun k => (T ≤ k ∧ k ≠ gx) ∧ k ≠ ga) (fun k hk => ⟨hk.1, GK2.out k hk.2.2.1⟩))
          clear HIE1 HR HB1 AK GA AS hy0 hy1 hyf0 hyf1 hq0 hq1 hq2 hq3 hq4 hq5 hqf0 hqf1 hqf2 hqf3 hqf4 hqf5 y0 y1 ha0 ha1 ha2 ha3 ha4 ha5 ha6 ha7 ha8 ha9 ha10 ha11 HX1 HT1
          generalize (wa.setCell ⟨ga, 0, none⟩ (.string (q06 (q00 o e1).f2 i).f0)).setCell ⟨ga, 1, none⟩ (.string (q06 (q00 o e1).f2 i).f1) = wb at HI2 HR2 AK2 HB2 HX2 HT2 HL2 ⊢
          have AK3 := AK2.out
          obtain ⟨hy0, hy1, hyf0, hyf1⟩ := bk2 (show wb.heap[ga]? = some (.cells #[.string (q06 (q00 o e1).f2 i).f0, .string (q06 (q00 o e1).f2 i).f1] 122 (0, 0)) from AK3)
          clear AK3
          obtain ⟨ha0, ha1, ha2, ha3, ha4, ha5, ha6, ha7, ha8, ha9, ha10, ha11⟩ := bk12 (q01 EK0.out HB2.out)
          have HI3 := aS (InEd.far HI2.out (p := ⟨ga, 1, none⟩) GX2.out.1 GX2.out.2 (.string e5))
          have HR3 := aS (Kd.R_mono (Kd.R_far HL2.out (p := ⟨ga, 1, none⟩) (fun k hk => hk.2) (.string e5)) (fun k hk => hk.1))
          have HB3 := aS (q0f (j := 1) (v := .string e5) HB2.out GB.out)
          have HX3 := aS (q09 HI3.out.2.1)
          have HT3 := aS (show T ≤ (wb.setCell ⟨ga, 1, none⟩ (.string e5)).heap.size by have h_ := HT2.out; simpa using h_)
          have AK3 := (show (wb.setCell ⟨ga, 1, none⟩ (.string e5)).heap[ga]? = some (.cells #[.string (q06 (q00 o e1).f2 i).f0, .string e5] 122 (0, 0)) from q0p AK2.out 1 (.string e5))
          obtain ⟨hv0, hv1, hvf0, hvf1⟩ := bk2 AK3
          clear AK3
          obtain ⟨hb0, hb1, hb2, hb3, hb4, hb5, hb6, hb7, hb8, hb9, hb10, hb11⟩ := bk12 (q01 EK0.out HB3.out)
          by_cases cl : ll.length < 4398046511104
          ·rw [if_pos cl] at H
           have LM := aS cl
           clear cl
           go_wp2_with ((with_reducible refine q1l (b := .append) (xs := #[.tmp 93, .tmp 95]) rfl ?_); at_builtin; go_must (refine Kd.R_append k122 (w0 := w7) w7.heap.size rfl (.tmp 93) (.tmp 95) 41 122 (.agg #[(.string ⟨#[]⟩), (.string ⟨#[]⟩)]) 32 rfl Tryd.underlying41 q1u rfl (by decide) (by omega) u11 ll (⟨(q06 (q00 o e1).f2 i).f0, e5⟩ : S122) [.string (q06 (q00 o e1).f2 i).f0, .string e5] (fun k => T ≤ k ∧ k ≠ gx) (fun _ => False) rfl (by first | rfl | (simp; done) | (simp [Act.eval]; done)) ?aP (fun _ hk => hk.elim) ?aF ?aO ?aB ?aS ?aL ?_; (case aP => exact k122_mkM _ _ _ (⟨(q06 (q00 o e1).f2 i).f0, e5⟩ : S122)); (case aB => exact (z8 HB3.out)); (case aF => exact fun k hk => (by have h1_ := HT3.out; have h2_ := HX3.out; have h3_ := hk; (try simp at h3_); exact ⟨by omega, by omega⟩)); (case aO => exact (by repeat (first | exact HR3.out | apply rA | apply rN | apply rD))); (case aS => exact (q03 (z8 HB3.out))); (case aL => have := LM.out; omega); intro v20 w20 ho hb hg hat; have HB4 := aS hb; have HR4 := aS ho; have HI4 := aS (InEd.grown (by repeat (first | exact HI3.out | refine InEd.below ?_ (q0k (Below.refl _ _) _) | refine InEd.below ?_ (q0j (Below.refl _ _)))) hg (fun k hk => HR3.out.1 k hk)); clear ho hb hg hat))
           go_roundg k1
           case measure => have := HK1.out; omega
           case rel => exact ⟨_, _, _, rfl, rfl, ⟨H⟩, ⟨by have := HK1.out; omega⟩, HI4, HR4, HB4⟩
          ·rw [if_neg cl] at H
           exact absurd H (by simp)
        ·rw [if_neg d1] at H
         have d1b : (e0 == 1) = false := beq_eq_false_iff_ne.mpr d1
         clear d1
         by_cases d2 : e0 = 2
         ·rw [if_pos d2] at H
          have d2b : (e0 != 2) = false := bne_eq_false_iff_eq.mpr d2
          clear d2
          as_aux_lemma =>
           go_upto_region 16 with ((with_reducible refine q07 (N := 14) rfl ?_); refine box1 rfl (N := 14) rfl (cs := #[.string (⟨#[]⟩ : ByteArray), .string (⟨#[]⟩ : ByteArray)]) (t := 122) zh ?_; intro ga wa AK GA AS; obtain ⟨hy0, hy1, hyf0, hyf1⟩ := bk2 AK.out)
           have HI2 := aS (InEd.far (InEd.far (InEd.below HIE1.out AS.out) (p := ⟨ga, 0, none⟩) (Nat.le_trans HT1.out GA.out) (fun e_ => by have h1_ := HX1.out; have h2_ := GA.out; have h3_ : ga = gx := e_; omega) (.string (q06 (q00 o e1).f2 i).f0)) (p := ⟨ga, 1, none⟩) (Nat.le_trans HT1.out GA.out) (fun e_ => by have h1_ := HX1.out; have h2_ := GA.out; have h3_ : ga = gx := e_; omega) (.string (q06 (q00 o e1).f2 i).f1))
           have HR2 := aS (Kd.R_mono (Kd.R_far (Kd.R_far (Kd.R_below (Kd.R_bound HR.out) AS.out) (p := ⟨ga, 0, none⟩) (fun k hk e_ => by have h1_ := hk.2.2.1; have h2_ := GA.out; have h3_ : k = ga := e_; omega) (.string (q06 (q00 o e1).f2 i).f0)) (p := ⟨ga, 1, none⟩) (fun k hk e_ => by have h1_ := hk.2.2.1; have h2_ := GA.out; have h3_ : k = ga := e_; omega) (.string (q06 (q00 o e1).f2 i).f1)) (fun k hk => hk.1))
           have AK2 := aS (q0p (q0p AK.out 0 (.string (q06 (q00 o e1).f2 i).f0)) 1 (.string (q06 (q00 o e1).f2 i).f1))
           have GB := aS (show w7.heap.size ≤ ga from Nat.le_trans (Below.size HB1.out) GA.out)
           have HB2 := aS (q0f (j := 1) (v := .string (q06 (q00 o e1).f2 i).f1) (q0f (j := 0) (v := .string (q06 (q00 o e1).f2 i).f0) (q02 HB1.out AS.out) GB.out) GB.out)
           have HX2 := aS (show gx < ((wa.setCell ⟨ga, 0, none⟩ (.string (q06 (q00 o e1).f2 i).f0)).setCell ⟨ga, 1, none⟩ (.string (q06 (q00 o e1).f2 i).f1)).heap.size from q09 HI2.out.2.1)
           have GX2 := aS (show T ≤ ga ∧ ga ≠ gx from ⟨Nat.le_trans HT1.out GA.out, fun e_ => by have h1_ := HX1.out; have h2_ := GA.out; omega⟩)
           have GK2 := aS (show ∀ k, k < wr.heap.size → k ≠ ga from fun k hk e_ => by have h2_ := GA.out; omega)
           have HT2 := aS (show T ≤ ((wa.setCell ⟨ga, 0, none⟩ (.string (q06 (q00 o e1).f2 i).f0)).setCell ⟨ga, 1, none⟩ (.string (q06 (q00 o e1).f2 i).f1)).heap.size from Nat.le_trans HT1.out (by have h1_ := Below.size AS.out; simpa using h1_))
           have HL2 := aS (Kd.R_mono (Kd.R_far (Kd.R_far (Kd.R_below (Kd.R_bound HR.out) AS.out) (p := ⟨ga, 0, none⟩) (fun k hk e_ => by have h1_ := hk.2.2.1; have h2_ := GA.out; have h3_ : k = ga := e_; omega) (.string (q06 (q00 o e1).f2 i).f0)) (p := ⟨ga, 1, none⟩) (fun k hk e_ => by have h1_ := hk.2.2.1; have h2_ := GA.out; have h3_ : k = ga := e_; omega) (.string (q06 (q00 o e1).f2 i).f1)) (ok' := fun k => (T ≤ k ∧ k ≠ gx) ∧ k ≠ ga) (fun k hk => ⟨hk.1, GK2.out k hk.2.2.1⟩))
           clear HIE1 HR HB1 AK GA AS hy0 hy1 hyf0 hyf1 hq0 hq1 hq2 hq3 hq4 hq5 hqf0 hqf1 hqf2 hqf3 hqf4 hqf5 y0 y1 ha0 ha1 ha2 ha3 ha4 ha5 ha6 ha7 ha8 ha9 ha10 ha11 HX1 HT1
           generalize (wa.setCell ⟨ga, 0, none⟩ (.string (q06 (q00 o e1).f2 i).f0)).setCell ⟨ga, 1, none⟩ (.string (q06 (q00 o e1).f2 i).f1) = wb at HI2 HR2 AK2 HB2 HX2 HT2 HL2 ⊢
           have AK3 := AK2.out
           obtain ⟨hy0, hy1, hyf0, hyf1⟩ := bk2 (show wb.heap[ga]? = some (.cells #[.string (q06 (q00 o e1).f2 i).f0, .string (q06 (q00 o e1).f2 i).f1] 122 (0, 0)) from AK3)
           clear AK3
           obtain ⟨ha0, ha1, ha2, ha3, ha4, ha5, ha6, ha7, ha8, ha9, ha10, ha11⟩ := bk12 (q01 EK0.out HB2.out)
           have HI3 := HI2
           have HR3 := HR2
           have HB3 := HB2
           have HX3 := HX2
           have HT3 := HT2
           have HI4 := HI3
           have HR4 := HR3
           have HB4 := HB3
           go_wp2
           go_roundg k1
           case measure => have := HK1.out; omega
           case rel => exact ⟨_, _, _, rfl, rfl, ⟨H⟩, ⟨by have := HK1.out; omega⟩, HI4, HR4, HB4⟩
         ·rw [if_neg d2] at H
          have d2b : (e0 != 2) = true := bne_iff_ne.mpr d2
          clear d2
          as_aux_lemma =>
           go_upto_region 16 with ((with_reducible refine q07 (N := 14) rfl ?_); refine box1 rfl (N := 14) rfl (cs := #[.string (⟨#[]⟩ : ByteArray), .string (⟨#[]⟩ : ByteArray)]) (t := 122) zh ?_; intro ga wa AK GA AS; obtain ⟨hy0, hy1, hyf0, hyf1⟩ := bk2 AK.out)
           have HI2 := aS (InEd.far (InEd.far (InEd.below HIE1.out AS.out) (p := ⟨ga, 0, none⟩) (Nat.le_trans HT1.out GA.out) (fun e_ => by have h1_ := HX1.out; have h2_ := GA.out; have h3_ : ga = gx := e_; omega) (.string (q06 (q00 o e1).f2 i).f0)) (p := ⟨ga, 1, none⟩) (Nat.le_trans HT1.out GA.out) (fun e_ => by have h1_ := HX1.out; have h2_ := GA.out; have h3_ : ga = gx := e_; omega) (.string (q06 (q00 o e1).f2 i).f1))
           have HR2 := aS (Kd.R_mono (Kd.R_far (Kd.R_far (Kd.R_below (Kd.R_bound HR.out) AS.out) (p := ⟨ga, 0, none⟩) (fun k hk e_ => by have h1_ := hk.2.2.1; have h2_ := GA.out; have h3_ : k = ga := e_; omega) (.string (q06 (q00 o e1).f2 i).f0)) (p := ⟨ga, 1, none⟩) (fun k hk e_ => by have h1_ := hk.2.2.1; have h2_ := GA.out; have h3_ : k = ga := e_; omega) (.string (q06 (q00 o e1).f2 i).f1)) (fun k hk => hk.1))
           have AK2 := aS (q0p (q0p AK.out 0 (.string (q06 (q00 o e1).f2 i).f0)) 1 (.string (q06 (q00 o e1).f2 i).f1))
           have GB := aS (show w7.heap.size ≤ ga from Nat.le_trans (Below.size HB1.out) GA.out)
           have HB2 := aS (q0f (j := 1) (v := .string (q06 (q00 o e1).f2 i).f1) (q0f (j := 0) (v := .string (q06 (q00 o e1).f2 i).f0) (q02 HB1.out AS.out) GB.out) GB.out)
           have HX2 := aS (show gx < ((wa.setCell ⟨ga, 0, none⟩ (.string (q06 (q00 o e1).f2 i).f0)).setCell ⟨ga, 1, none⟩ (.string (q06 (q00 o e1).f2 i).f1)).heap.size from q09 HI2.out.2.1)
           have GX2 := aS (show T ≤ ga ∧ ga ≠ gx from ⟨Nat.le_trans HT1.out GA.out, fun e_ => by have h1_ := HX1.out; have h2_ := GA.out; omega⟩)
           have GK2 := aS (show ∀ k, k < wr.heap.size → k ≠ ga from fun k hk e_ => by have h2_ := GA.out; omega)
           have HT2 := aS (show T ≤ ((wa.setCell ⟨ga, 0, none⟩ (.string (q06 (q00 o e1).f2 i).f0)).setCell ⟨ga, 1, none⟩ (.string (q06 (q00 o e1).f2 i).f1)).heap.size from Nat.le_trans HT1.out (by have h1_ := Below.size AS.out; simpa using h1_))
           have HL2 := aS (Kd.R_mono (Kd.R_far (Kd.R_far (Kd.R_below (Kd.R_bound HR.out) AS.out) (p := ⟨ga, 0, none⟩) (fun k hk e_ => by have h1_ := hk.2.2.1; have h2_ := GA.out; have h3_ : k = ga := e_; omega) (.string (q06 (q00 o e1).f2 i).f0)) (p := ⟨ga, 1, none⟩) (fun k hk e_ => by have h1_ := hk.2.2.1; have h2_ := GA.out; have h3_ : k = ga := e_; omega) (.string (q06 (q00 o e1).f2 i).f1)) (ok' := fun k => (T ≤ k ∧ k ≠ gx) ∧ k ≠ ga) (fun k hk => ⟨hk.1, GK2.out k hk.2.2.1⟩))
           clear HIE1 HR HB1 AK GA AS hy0 hy1 hyf0 hyf1 hq0 hq1 hq2 hq3 hq4 hq5 hqf0 hqf1 hqf2 hqf3 hqf4 hqf5 y0 y1 ha0 ha1 ha2 ha3 ha4 ha5 ha6 ha7 ha8 ha9 ha10 ha11 HX1 HT1
           generalize (wa.setCell ⟨ga, 0, none⟩ (.string (q06 (q00 o e1).f2 i).f0)).setCell ⟨ga, 1, none⟩ (.string (q06 (q00 o e1).f2 i).f1) = wb at HI2 HR2 AK2 HB2 HX2 HT2 HL2 ⊢
           have AK3 := AK2.out
           obtain ⟨hy0, hy1, hyf0, hyf1⟩ := bk2 (show wb.heap[ga]? = some (.cells #[.string (q06 (q00 o e1).f2 i).f0, .string (q06 (q00 o e1).f2 i).f1] 122 (0, 0)) from AK3)
           clear AK3
           obtain ⟨ha0, ha1, ha2, ha3, ha4, ha5, ha6, ha7, ha8, ha9, ha10, ha11⟩ := bk12 (q01 EK0.out HB2.out)
           by_cases cl : ll.length < 4398046511104
           ·rw [if_pos cl] at H
            have LM := aS cl
            clear cl
            have HI3 := HI2
            have HR3 := HR2
            have HB3 := HB2
            have HX3 := HX2
            have HT3 := HT2
            go_wp2_with ((with_reducible refine q1l (b := .append) (xs := #[.tmp 93, .tmp 95]) rfl ?_); at_builtin; go_must (refine Kd.R_append k122 (w0 := w7) w7.heap.size rfl (.tmp 93) (.tmp 95) 41 122 (.agg #[(.string ⟨#[]⟩), (.string ⟨#[]⟩)]) 32 rfl Tryd.underlying41 q1u rfl (by decide) (by omega) u11 ll (⟨(q06 (q00 o e1).f2 i).f0, (q06 (q00 o e1).f2 i).f1⟩ : S122) [.string (q06 (q00 o e1).f2 i).f0, .string (q06 (q00 o e1).f2 i).f1] (fun k => T ≤ k ∧ k ≠ gx) (fun _ => False) rfl rfl ?aP (fun _ hk => hk.elim) ?aF ?aO ?aB ?aS ?aL ?_; (case aP => exact k122_mkM _ _ _ (⟨(q06 (q00 o e1).f2 i).f0, (q06 (q00 o e1).f2 i).f1⟩ : S122)); (case aB => exact (z8 HB3.out)); (case aF => exact fun k hk => (by have h1_ := HT3.out; have h2_ := HX3.out; have h3_ := hk; (try simp at h3_); exact ⟨by omega, by omega⟩)); (case aO => exact (by repeat (first | exact HR3.out | apply rA | apply rN | apply rD))); (case aS => exact (q03 (z8 HB3.out))); (case aL => have := LM.out; omega); intro v20 w20 ho hb hg hat; have HB4 := aS hb; have HR4 := aS ho; have HI4 := aS (InEd.grown (by repeat (first | exact HI3.out | refine InEd.below ?_ (q0k (Below.refl _ _) _) | refine InEd.below ?_ (q0j (Below.refl _ _)))) hg (fun k hk => HR3.out.1 k hk)); clear ho hb hg hat))
            go_roundg k1
            case measure => have := HK1.out; omega
            case rel => exact ⟨_, _, _, rfl, rfl, ⟨H⟩, ⟨by have := HK1.out; omega⟩, HI4, HR4, HB4⟩
           ·rw [if_neg cl] at H
            exact absurd H (by simp)
       ·rw [if_neg cn] at H
        have cnb : ((q06 (q00 o e1).f2 i).f0.toList == e4.toList) = false := beq_eq_false_iff_ne.mpr cn
        have cnb2 : ((q06 (q00 o e1).f2 i).f0.toList != e4.toList) = true := bne_iff_ne.mpr cn
        clear cn
        as_aux_lemma =>
         go_upto_region 16 with ((with_reducible refine q07 (N := 14) rfl ?_); refine box1 rfl (N := 14) rfl (cs := #[.string (⟨#[]⟩ : ByteArray), .string (⟨#[]⟩ : ByteArray)]) (t := 122) zh ?_; intro ga wa AK GA AS; obtain ⟨hy0, hy1, hyf0, hyf1⟩ := bk2 AK.out)
         have HI2 := aS (InEd.far (InEd.far (InEd.below HIE1.out AS.out) (p := ⟨ga, 0, none⟩) (Nat.le_trans HT1.out GA.out) (fun e_ => by have h1_ := HX1.out; have h2_ := GA.out; have h3_ : ga = gx := e_; omega) (.string (q06 (q00 o e1).f2 i).f0)) (p := ⟨ga, 1, none⟩) (Nat.le_trans HT1.out GA.out) (fun e_ => by have h1_ := HX1.out; have h2_ := GA.out; have h3_ : ga = gx := e_; omega) (.string (q06 (q00 o e1).f2 i).f1))
         have HR2 := aS (Kd.R_mono (Kd.R_far (Kd.R_far (Kd.R_below (Kd.R_bound HR.out) AS.out) (p := ⟨ga, 0, none⟩) (fun k hk e_ => by have h1_ := hk.2.2.1; have h2_ := GA.out; have h3_ : k = ga := e_; omega) (.string (q06 (q00 o e1).f2 i).f0)) (p := ⟨ga, 1, none⟩) (fun k hk e_ => by have h1_ := hk.2.2.1; have h2_ := GA.out; have h3_ : k = ga := e_; omega) (.string (q06 (q00 o e1).f2 i).f1)) (fun k hk => hk.1))
         have AK2 := aS (q0p (q0p AK.out 0 (.string (q06 (q00 o e1).f2 i).f0)) 1 (.string (q06 (q00 o e1).f2 i).f1))
         have GB := aS (show w7.heap.size ≤ ga from Nat.le_trans (Below.size HB1.out) GA.out)
         have HB2 := aS (q0f (j := 1) (v := .string (q06 (q00 o e1).f2 i).f1) (q0f (j := 0) (v := .string (q06 (q00 o e1).f2 i).f0) (q02 HB1.out AS.out) GB.out) GB.out)
         have HX2 := aS (show gx < ((wa.setCell ⟨ga, 0, none⟩ (.string (q06 (q00 o e1).f2 i).f0)).setCell ⟨ga, 1, none⟩ (.string (q06 (q00 o e1).f2 i).f1)).heap.size from q09 HI2.out.2.1)
         have GX2 := aS (show T ≤ ga ∧ ga ≠ gx from ⟨Nat.le_trans HT1.out GA.out, fun e_ => by have h1_ := HX1.out; have h2_ := GA.out; omega⟩)
         have GK2 := aS (show ∀ k, k < wr.heap.size → k ≠ ga from fun k hk e_ => by have h2_ := GA.out; omega)
         have HT2 := aS (show T ≤ ((wa.setCell ⟨ga, 0, none⟩ (.string (q06 (q00 o e1).f2 i).f0)).setCell ⟨ga, 1, none⟩ (.string (q06 (q00 o e1).f2 i).f1)).heap.size from Nat.le_trans HT1.out (by have h1_ := Below.size AS.out; simpa using h1_))
         have HL2 := aS (Kd.R_mono (Kd.R_far (Kd.R_far (Kd.R_below (Kd.R_bound HR.out) AS.out) (p := ⟨ga, 0, none⟩) (fun k hk e_ => by have h1_ := hk.2.2.1; have h2_ := GA.out; have h3_ : k = ga := e_; omega) (.string (q06 (q00 o e1).f2 i).f0)) (p := ⟨ga, 1, none⟩) (fun k hk e_ => by have h1_ := hk.2.2.1; have h2_ := GA.out; have h3_ : k = ga := e_; omega) (.string (q06 (q00 o e1).f2 i).f1)) (ok' := fun k => (T ≤ k ∧ k ≠ gx) ∧ k ≠ ga) (fun k hk => ⟨hk.1, GK2.out k hk.2.2.1⟩))
         clear HIE1 HR HB1 AK GA AS hy0 hy1 hyf0 hyf1 hq0 hq1 hq2 hq3 hq4 hq5 hqf0 hqf1 hqf2 hqf3 hqf4 hqf5 y0 y1 ha0 ha1 ha2 ha3 ha4 ha5 ha6 ha7 ha8 ha9 ha10 ha11 HX1 HT1
         generalize (wa.setCell ⟨ga, 0, none⟩ (.string (q06 (q00 o e1).f2 i).f0)).setCell ⟨ga, 1, none⟩ (.string (q06 (q00 o e1).f2 i).f1) = wb at HI2 HR2 AK2 HB2 HX2 HT2 HL2 ⊢
         have AK3 := AK2.out
         obtain ⟨hy0, hy1, hyf0, hyf1⟩ := bk2 (show wb.heap[ga]? = some (.cells #[.string (q06 (q00 o e1).f2 i).f0, .string (q06 (q00 o e1).f2 i).f1] 122 (0, 0)) from AK3)
         clear AK3
         obtain ⟨ha0, ha1, ha2, ha3, ha4, ha5, ha6, ha7, ha8, ha9, ha10, ha11⟩ := bk12 (q01 EK0.out HB2.out)
         by_cases cl : ll.length < 4398046511104
         ·rw [if_pos cl] at H
          have LM := aS cl
          clear cl
          have HI3 := HI2
          have HR3 := HR2
          have HB3 := HB2
          have HX3 := HX2
          have HT3 := HT2
          go_wp2_with ((with_reducible refine q1l (b := .append) (xs := #[.tmp 93, .tmp 95]) rfl ?_); at_builtin; go_must (refine Kd.R_append k122 (w0 := w7) w7.heap.size rfl (.tmp 93) (.tmp 95) 41 122 (.agg #[(.string ⟨#[]⟩), (.string ⟨#[]⟩)]) 32 rfl Tryd.underlying41 q1u rfl (by decide) (by omega) u11 ll (⟨(q06 (q00 o e1).f2 i).f0, (q06 (q00 o e1).f2 i).f1⟩ : S122) [.string (q06 (q00 o e1).f2 i).f0, .string (q06 (q00 o e1).f2 i).f1] (fun k => T ≤ k ∧ k ≠ gx) (fun _ => False) rfl rfl ?aP (fun _ hk => hk.elim) ?aF ?aO ?aB ?aS ?aL ?_; (case aP => exact k122_mkM _ _ _ (⟨(q06 (q00 o e1).f2 i).f0, (q06 (q00 o e1).f2 i).f1⟩ : S122)); (case aB => exact (z8 HB3.out)); (case aF => exact fun k hk => (by have h1_ := HT3.out; have h2_ := HX3.out; have h3_ := hk; (try simp at h3_); exact ⟨by omega, by omega⟩)); (case aO => exact (by repeat (first | exact HR3.out | apply rA | apply rN | apply rD))); (case aS => exact (q03 (z8 HB3.out))); (case aL => have := LM.out; omega); intro v20 w20 ho hb hg hat; have HB4 := aS hb; have HR4 := aS ho; have HI4 := aS (InEd.grown (by repeat (first | exact HI3.out | refine InEd.below ?_ (q0k (Below.refl _ _) _) | refine InEd.below ?_ (q0j (Below.refl _ _)))) hg (fun k hk => HR3.out.1 k hk)); clear ho hb hg hat))
          go_roundg k1
          case measure => have := HK1.out; omega
          case rel => exact ⟨_, _, _, rfl, rfl, ⟨H⟩, ⟨by have := HK1.out; omega⟩, HI4, HR4, HB4⟩
         ·rw [if_neg cl] at H
          exact absurd H (by simp)
      case n10 =>
       have c10b : decide (i < ((q00 o e1).f2.length : Int)) = false := decide_eq_false c10
       clear c10
       simp only [Option.some.injEq, Prod.mk.injEq] at H
       obtain ⟨rfl, rfl⟩ := H
       have hm := HM.out
       clear HM
       obtain ⟨hz0, hz1, -, -⟩ := bk2 HIE1.out.1.1
       by_cases d1 : e0 = 1
       ·rw [if_pos d1] at hm
        have d1b : (e0 == 1) = true := beq_iff_eq.mpr d1
        have d12b : (e0 == 2) = false := beq_eq_false_iff_ne.mpr (by omega)
        have f3b : (e0 == 3) = false := beq_eq_false_iff_ne.mpr (by omega)
        have f5b : (e0 == 5) = false := beq_eq_false_iff_ne.mpr (by omega)
        have f6b : (e0 == 6) = false := beq_eq_false_iff_ne.mpr (by omega)
        clear d1
        as_aux_lemma =>
         cases st with
         | true =>
          rw [if_pos rfl] at hm
          simp only [Option.some.injEq] at hm
          subst hm
          obtain ⟨Au, cu, eu_⟩ := Kd.R_slice HR.out
          subst eu_
          go_upto_region 25 with (fail)
          have HI3 := aS (InEd.putx (cs' := #[.int .i64 (q00 o e1).f0, .string (q00 o e1).f1, .slice Au ll.length cu, .string (q00 o e1).f3, .int .i64 (q00 o e1).f4, .slice A5 (q00 o e1).f5.length c5]) HIE1.out 2 (.slice Au ll.length cu) rfl)
          have HB3 := aS (q0f (j := 2) (v := .slice Au ll.length cu) HB1.out HIE1.out.gxge)
          have HR5 := aS (Kd.R_far HR.out (p := ⟨gx, 2, none⟩) (fun k hk e_ => hk.2 e_) (.slice Au ll.length cu))
          clear hz0 hz1 hq0 hq1 hq2 hq3 hq4 hq5 hqf0 hqf1 hqf2 hqf3 hqf4 hqf5 ha0 ha1 ha2 ha3 ha4 ha5 ha6 ha7 ha8 ha9 ha10 ha11
          generalize wr.setCell ⟨gx, 2, none⟩ (.slice Au ll.length cu) = wt at HI3 HB3 HR5 ⊢
          obtain ⟨hz0, hz1, -, -⟩ := bk2 HI3.out.1.1
          have hqq_ := bk6 HI3.out.2.1
          obtain ⟨hq0, hq1, hq2, hq3, hq4, hq5, hqf0, hqf1, hqf2, hqf3, hqf4, hqf5⟩ := hqq_
          obtain ⟨ha0, ha1, ha2, ha3, ha4, ha5, ha6, ha7, ha8, ha9, ha10, ha11⟩ := bk12 (q01 EK0.out HB3.out)
          go_upto_region 37 with (fail)
          have HTH := aS (q0w.there HI3.out.1 e1 HN0.out HN1.out)
          have HW9 := aS (q0w.whole HI3.out.1 (Nat.le_trans HI3.out.2.2.2.2.1 (Nat.le_of_lt (q09 HI3.out.2.1))) e1 HN0.out HN1.out { (q00 o e1) with f2 := ll } (.slice Au ll.length cu) (.slice A5 (q00 o e1).f5.length c5) (.inr (Kd.R_mono (Kd.R_bound HR5.out) (fun k hk => ⟨hk.1.1, hk.2.2.1, fun e_ => by have h1_ := hk.1.1; have h2_ := HI3.out.2.2.2.2.2; omega⟩))) (.inl ⟨HI3.out.2.2.2.1, rfl⟩))
          have HB9_ := aS (q1q HW9.out.ge.1 [.int .i64 (q00 o e1).f0, .string (q00 o e1).f1, .slice Au ll.length cu, .string (q00 o e1).f3, .int .i64 (q00 o e1).f4, .slice A5 (q00 o e1).f5.length c5] (e1.toNat * 6) HB3.out)
          go_wp2_with (refine wpList_store_mid (by rfl) 43 (.tmp 198) (.tmp 197) (by rfl) b (e1.toNat * 6) #[.int .i64 (q00 o e1).f0, .string (q00 o e1).f1, .slice Au ll.length cu, .string (q00 o e1).f3, .int .i64 (q00 o e1).f4, .slice A5 (q00 o e1).f5.length c5] ?hx ?hy ?hT ?hI ?h1 ?_; go_must ((case hx => rfl); (case hy => rfl); (case hT => exact HTH.out); (case hI => kernel_rfl); (case h1 => first | rfl | (simp [Value.oneCell']; done) | (simp; done) | decide)))
          go_meet
          exact ⟨rfl, ⟨⟨_, _, _, HW9.out⟩⟩, HB9_⟩
         | false =>
          rw [if_neg Bool.false_ne_true] at hm
          by_cases cl : ll.length < 4398046511104
          ·rw [if_pos cl] at hm
           have LM := aS cl
           clear cl
           have HX3 := aS (q09 HIE1.out.2.1)
           have HT3 := aS (show T ≤ wr.heap.size from Nat.le_of_lt (Nat.lt_of_le_of_lt HIE1.out.2.2.2.2.1 HX3.out))
           simp only [Option.some.injEq] at hm
           subst hm
           obtain ⟨Au, cu, eu_⟩ := Kd.R_slice HR.out
           subst eu_
           go_upto_region 25 with ((with_reducible refine q1l (b := .append) (xs := #[.tmp 104, .tmp 110]) rfl ?_); at_builtin; go_must (refine Kd.R_append k122 (w0 := w7) w7.heap.size rfl (.tmp 104) (.tmp 110) 41 122 (.agg #[(.string ⟨#[]⟩), (.string ⟨#[]⟩)]) 32 rfl Tryd.underlying41 q1u rfl (by decide) (by omega) (.slice Au ll.length cu) ll (⟨e4, e5⟩ : S122) [.string e4, .string e5] (fun k => T ≤ k ∧ k ≠ gx) (fun _ => False) rfl (by first | rfl | (simp; done) | (simp [Act.eval]; done)) ?aP (fun _ hk => hk.elim) ?aF ?aO ?aB ?aS ?aL ?_; (case aP => exact k122_mkM _ _ _ (⟨e4, e5⟩ : S122)); (case aB => exact (z8 HB1.out)); (case aF => exact fun k hk => (by have h1_ := HT3.out; have h2_ := HX3.out; have h3_ := hk; (try simp at h3_); exact ⟨by omega, by omega⟩)); (case aO => exact (by repeat (first | exact HR.out | apply rA | apply rN | apply rD))); (case aS => exact (q03 (z8 HB1.out))); (case aL => have := LM.out; omega); intro v20 w20 ho hb hg hat; have HB4 := aS hb; have HR4 := aS ho; have HI4 := aS (InEd.grown (by repeat (first | exact HIE1.out | refine InEd.below ?_ (q0k (Below.refl _ _) _) | refine InEd.below ?_ (q0j (Below.refl _ _)))) hg (fun k hk => HR.out.1 k hk)); clear ho hb hg hat; obtain ⟨A20, c20, e20_⟩ := Kd.R_slice HR4.out; (try rw [show (ll ++ [(⟨e4, e5⟩ : S122)]).length = ll.length + 1 from by rw [List.length_append]; rfl] at e20_); subst e20_; clear hz0 hz1 hq0 hq1 hq2 hq3 hq4 hq5 hqf0 hqf1 hqf2 hqf3 hqf4 hqf5 ha0 ha1 ha2 ha3 ha4 ha5 ha6 ha7 ha8 ha9 ha10 ha11; obtain ⟨hz0, hz1, -, -⟩ := bk2 HI4.out.1.1; have hqq_ := bk6 HI4.out.2.1; obtain ⟨hq0, hq1, hq2, hq3, hq4, hq5, hqf0, hqf1, hqf2, hqf3, hqf4, hqf5⟩ := hqq_; obtain ⟨ha0, ha1, ha2, ha3, ha4, ha5, ha6, ha7, ha8, ha9, ha10, ha11⟩ := bk12 (q01 EK0.out HB4.out)))
           have HI3 := aS (InEd.putx (cs' := #[.int .i64 (q00 o e1).f0, .string (q00 o e1).f1, .slice A20 (ll.length + 1) c20, .string (q00 o e1).f3, .int .i64 (q00 o e1).f4, .slice A5 (q00 o e1).f5.length c5]) HI4.out 2 (.slice A20 (ll.length + 1) c20) rfl)
           have HB3 := aS (q0f (j := 2) (v := .slice A20 (ll.length + 1) c20) HB4.out HI4.out.gxge)
           have HR5 := aS (Kd.R_far HR4.out (p := ⟨gx, 2, none⟩) (fun k hk e_ => hk.2 e_) (.slice A20 (ll.length + 1) c20))
           clear hz0 hz1 hq0 hq1 hq2 hq3 hq4 hq5 hqf0 hqf1 hqf2 hqf3 hqf4 hqf5 ha0 ha1 ha2 ha3 ha4 ha5 ha6 ha7 ha8 ha9 ha10 ha11
           generalize w20.setCell ⟨gx, 2, none⟩ (.slice A20 (ll.length + 1) c20) = wt at HI3 HB3 HR5 ⊢
           obtain ⟨hz0, hz1, -, -⟩ := bk2 HI3.out.1.1
           have hqq_ := bk6 HI3.out.2.1
           obtain ⟨hq0, hq1, hq2, hq3, hq4, hq5, hqf0, hqf1, hqf2, hqf3, hqf4, hqf5⟩ := hqq_
           obtain ⟨ha0, ha1, ha2, ha3, ha4, ha5, ha6, ha7, ha8, ha9, ha10, ha11⟩ := bk12 (q01 EK0.out HB3.out)
           go_upto_region 37 with (fail)
           have HTH := aS (q0w.there HI3.out.1 e1 HN0.out HN1.out)
           have HW9 := aS (q0w.whole HI3.out.1 (Nat.le_trans HI3.out.2.2.2.2.1 (Nat.le_of_lt (q09 HI3.out.2.1))) e1 HN0.out HN1.out { (q00 o e1) with f2 := (ll ++ [(⟨e4, e5⟩ : S122)]) } (.slice A20 (ll.length + 1) c20) (.slice A5 (q00 o e1).f5.length c5) (.inr (Kd.R_mono (Kd.R_bound HR5.out) (fun k hk => ⟨hk.1.1, hk.2.2.1, fun e_ => by have h1_ := hk.1.1; have h2_ := HI3.out.2.2.2.2.2; omega⟩))) (.inl ⟨HI3.out.2.2.2.1, rfl⟩))
           have HB9_ := aS (q1q HW9.out.ge.1 [.int .i64 (q00 o e1).f0, .string (q00 o e1).f1, .slice A20 (ll.length + 1) c20, .string (q00 o e1).f3, .int .i64 (q00 o e1).f4, .slice A5 (q00 o e1).f5.length c5] (e1.toNat * 6) HB3.out)
           go_wp2_with (refine wpList_store_mid (by rfl) 43 (.tmp 198) (.tmp 197) (by rfl) b (e1.toNat * 6) #[.int .i64 (q00 o e1).f0, .string (q00 o e1).f1, .slice A20 (ll.length + 1) c20, .string (q00 o e1).f3, .int .i64 (q00 o e1).f4, .slice A5 (q00 o e1).f5.length c5] ?hx ?hy ?hT ?hI ?h1 ?_; go_must ((case hx => rfl); (case hy => rfl); (case hT => exact HTH.out); (case hI => kernel_rfl); (case h1 => first | rfl | (simp [Value.oneCell']; done) | (simp; done) | decide)))
           go_meet
           exact ⟨rfl, ⟨⟨_, _, _, HW9.out⟩⟩, HB9_⟩
          ·rw [if_neg cl] at hm
           exact absurd hm (by simp)
       ·rw [if_neg d1] at hm
        have d1b : (e0 == 1) = false := beq_eq_false_iff_ne.mpr d1
        clear d1
        by_cases d2 : e0 = 2
        ·rw [if_pos d2] at hm
         have d2b : (e0 == 2) = true := beq_iff_eq.mpr d2
         have f3b : (e0 == 3) = false := beq_eq_false_iff_ne.mpr (by omega)
         have f5b : (e0 == 5) = false := beq_eq_false_iff_ne.mpr (by omega)
         have f6b : (e0 == 6) = false := beq_eq_false_iff_ne.mpr (by omega)
         clear d2
         as_aux_lemma =>
          simp only [Option.some.injEq] at hm
          subst hm
          obtain ⟨Au, cu, eu_⟩ := Kd.R_slice HR.out
          subst eu_
          go_upto_region 25 with (fail)
          have HI3 := aS (InEd.putx (cs' := #[.int .i64 (q00 o e1).f0, .string (q00 o e1).f1, .slice Au ll.length cu, .string (q00 o e1).f3, .int .i64 (q00 o e1).f4, .slice A5 (q00 o e1).f5.length c5]) HIE1.out 2 (.slice Au ll.length cu) rfl)
          have HB3 := aS (q0f (j := 2) (v := .slice Au ll.length cu) HB1.out HIE1.out.gxge)
          have HR5 := aS (Kd.R_far HR.out (p := ⟨gx, 2, none⟩) (fun k hk e_ => hk.2 e_) (.slice Au ll.length cu))
          clear hz0 hz1 hq0 hq1 hq2 hq3 hq4 hq5 hqf0 hqf1 hqf2 hqf3 hqf4 hqf5 ha0 ha1 ha2 ha3 ha4 ha5 ha6 ha7 ha8 ha9 ha10 ha11
          generalize wr.setCell ⟨gx, 2, none⟩ (.slice Au ll.length cu) = wt at HI3 HB3 HR5 ⊢
          obtain ⟨hz0, hz1, -, -⟩ := bk2 HI3.out.1.1
          have hqq_ := bk6 HI3.out.2.1
          obtain ⟨hq0, hq1, hq2, hq3, hq4, hq5, hqf0, hqf1, hqf2, hqf3, hqf4, hqf5⟩ := hqq_
          obtain ⟨ha0, ha1, ha2, ha3, ha4, ha5, ha6, ha7, ha8, ha9, ha10, ha11⟩ := bk12 (q01 EK0.out HB3.out)
          go_upto_region 37 with (fail)
          have HTH := aS (q0w.there HI3.out.1 e1 HN0.out HN1.out)
          have HW9 := aS (q0w.whole HI3.out.1 (Nat.le_trans HI3.out.2.2.2.2.1 (Nat.le_of_lt (q09 HI3.out.2.1))) e1 HN0.out HN1.out { (q00 o e1) with f2 := ll } (.slice Au ll.length cu) (.slice A5 (q00 o e1).f5.length c5) (.inr (Kd.R_mono (Kd.R_bound HR5.out) (fun k hk => ⟨hk.1.1, hk.2.2.1, fun e_ => by have h1_ := hk.1.1; have h2_ := HI3.out.2.2.2.2.2; omega⟩))) (.inl ⟨HI3.out.2.2.2.1, rfl⟩))
          have HB9_ := aS (q1q HW9.out.ge.1 [.int .i64 (q00 o e1).f0, .string (q00 o e1).f1, .slice Au ll.length cu, .string (q00 o e1).f3, .int .i64 (q00 o e1).f4, .slice A5 (q00 o e1).f5.length c5] (e1.toNat * 6) HB3.out)
          go_wp2_with (refine wpList_store_mid (by rfl) 43 (.tmp 198) (.tmp 197) (by rfl) b (e1.toNat * 6) #[.int .i64 (q00 o e1).f0, .string (q00 o e1).f1, .slice Au ll.length cu, .string (q00 o e1).f3, .int .i64 (q00 o e1).f4, .slice A5 (q00 o e1).f5.length c5] ?hx ?hy ?hT ?hI ?h1 ?_; go_must ((case hx => rfl); (case hy => rfl); (case hT => exact HTH.out); (case hI => kernel_rfl); (case h1 => first | rfl | (simp [Value.oneCell']; done) | (simp; done) | decide)))
          go_meet
          exact ⟨rfl, ⟨⟨_, _, _, HW9.out⟩⟩, HB9_⟩
        ·rw [if_neg d2] at hm
         have d2b : (e0 == 2) = false := beq_eq_false_iff_ne.mpr d2
         clear d2
         by_cases d3 : e0 = 3
         ·rw [if_pos d3] at hm
          have d3b : (e0 == 3) = true := beq_iff_eq.mpr d3
          have f5b : (e0 == 5) = false := beq_eq_false_iff_ne.mpr (by omega)
          have f6b : (e0 == 6) = false := beq_eq_false_iff_ne.mpr (by omega)
          clear d3
          as_aux_lemma =>
           go_upto_region 27 with (fail)
           simp only [Option.some.injEq] at hm
           subst hm
           have HI3 := aS (InEd.putx (cs' := #[.int .i64 (q00 o e1).f0, .string (q00 o e1).f1, .slice A2 (q00 o e1).f2.length c2, .string e5, .int .i64 (q00 o e1).f4, .slice A5 (q00 o e1).f5.length c5]) HIE1.out 3 (.string e5) rfl)
           have HB3 := aS (q0f (j := 3) (v := .string e5) HB1.out HIE1.out.gxge)
           clear hz0 hz1 hq0 hq1 hq2 hq3 hq4 hq5 hqf0 hqf1 hqf2 hqf3 hqf4 hqf5 ha0 ha1 ha2 ha3 ha4 ha5 ha6 ha7 ha8 ha9 ha10 ha11
           generalize wr.setCell ⟨gx, 3, none⟩ (.string e5) = wt at HI3 HB3 ⊢
           obtain ⟨hz0, hz1, -, -⟩ := bk2 HI3.out.1.1
           have hqq_ := bk6 HI3.out.2.1
           obtain ⟨hq0, hq1, hq2, hq3, hq4, hq5, hqf0, hqf1, hqf2, hqf3, hqf4, hqf5⟩ := hqq_
           obtain ⟨ha0, ha1, ha2, ha3, ha4, ha5, ha6, ha7, ha8, ha9, ha10, ha11⟩ := bk12 (q01 EK0.out HB3.out)
           go_upto_region 37 with (fail)
           have HTH := aS (q0w.there HI3.out.1 e1 HN0.out HN1.out)
           have HW9 := aS (q0w.whole HI3.out.1 (Nat.le_refl T) e1 HN0.out HN1.out { (q00 o e1) with f3 := e5 } (.slice A2 (q00 o e1).f2.length c2) (.slice A5 (q00 o e1).f5.length c5) (.inl ⟨HI3.out.2.2.1, rfl⟩) (.inl ⟨HI3.out.2.2.2.1, rfl⟩))
           have HB9_ := aS (q1q HW9.out.ge.1 [.int .i64 (q00 o e1).f0, .string (q00 o e1).f1, .slice A2 (q00 o e1).f2.length c2, .string e5, .int .i64 (q00 o e1).f4, .slice A5 (q00 o e1).f5.length c5] (e1.toNat * 6) HB3.out)
           go_wp2_with (refine wpList_store_mid (by rfl) 43 (.tmp 198) (.tmp 197) (by rfl) b (e1.toNat * 6) #[.int .i64 (q00 o e1).f0, .string (q00 o e1).f1, .slice A2 (q00 o e1).f2.length c2, .string e5, .int .i64 (q00 o e1).f4, .slice A5 (q00 o e1).f5.length c5] ?hx ?hy ?hT ?hI ?h1 ?_; go_must ((case hx => rfl); (case hy => rfl); (case hT => exact HTH.out); (case hI => kernel_rfl); (case h1 => first | rfl | (simp [Value.oneCell']; done) | (simp; done) | decide)))
           go_meet
           exact ⟨rfl, ⟨⟨_, _, _, HW9.out⟩⟩, HB9_⟩
         ·rw [if_neg d3] at hm
          have d3b : (e0 == 3) = false := beq_eq_false_iff_ne.mpr d3
          clear d3
          by_cases d5 : e0 = 5
          ·rw [if_pos d5] at hm
           have d5b : (e0 == 5) = true := beq_iff_eq.mpr d5
           have f6b : (e0 == 6) = false := beq_eq_false_iff_ne.mpr (by omega)
           clear d5
           as_aux_lemma =>
            refine iGp hm ?_
            clear hm
            intro ⟨t0, t1, t2⟩ hm
            have HT0 := aS t0
            have HT1 := aS t1
            have HT2 := aS t2
            obtain ⟨i, hi, hm⟩ := Option.bind_eq_some_iff.1 hm
            refine iGp hm ?_
            clear hm
            intro ⟨i0, i1, i2⟩ hm
            have HI0 := aS i0
            have HI1 := aS i1
            have HI2 := aS i2
            clear t0 t1 t2 i0 i1 i2
            simp only [Option.some.injEq] at hm
            subst hm
            go_upto_if 136 with (fail)
            go_cut [15] (fun v15 wc => v15 = .int .i64 i ∧ Aside0 (InEd w7 wc T g gx b cap o q2 e1 #[.int .i64 (q00 o e1).f0, .string (q00 o e1).f1, .slice A2 (q00 o e1).f2.length c2, .string (q00 o e1).f3, .int .i64 (q00 o e1).f4, .slice A5 (q00 o e1).f5.length c5] A2 c2 A5 c5) ∧ Aside0 (Below w7.heap.size w7 wc))
            case first =>
             have hk5 := HIE1.out.kids HN0.out HN1.out
             have HC5 := aS hk5.1
             have HL5 := aS hk5.2
             clear hk5
             by_cases n3 : e3 = -1
             ·rw [if_pos n3] at hi
              have n3b : (e3 != -1) = false := bne_eq_false_iff_eq.mpr n3
              clear n3
              obtain rfl := Option.some.inj hi
              go_wp2
              go_meet
              exact ⟨rfl, HIE1, HB1⟩
             ·rw [if_neg n3] at hi
              have n3b : (e3 != -1) = true := bne_iff_ne.mpr n3
              clear n3
              go_wp2_with (go_at_call 74; (with_reducible refine (clerestoryref1_placeIn.calls k A5 c5 (q00 o e1).f5 e3 i _ HC5.out HL5.out hi).mono ?_); rintro e w30 ⟨rfl, hd⟩; have hbx := q0q hd; clear hd; have HI3 := aS (InEd.below HIE1.out hbx); have HB3 := aS (q02 HB1.out hbx); clear hbx)
              go_meet
              exact ⟨rfl, HI3, HB3⟩
            case rest =>
             obtain ⟨rfl, HIc, HBc⟩ := hcut
             clear HIE1 HB1 HR hi hz0 hz1 hq0 hq1 hq2 hq3 hq4 hq5 hqf0 hqf1 hqf2 hqf3 hqf4 hqf5 ha0 ha1 ha2 ha3 ha4 ha5 ha6 ha7 ha8 ha9 ha10 ha11
             have hk5 := HIc.out.kids HN0.out HN1.out
             obtain ⟨i01, hi01, _, hsz1, _⟩ := info_parts info3
             obtain ⟨hcut1, hA1, hC1⟩ := print_take_of (P := Tryd.prog) (Value.int .i64) 0 31 3 .i64 Tryd.underlying31 hi01 hsz1 A5 c5 (q00 o e1).f5 i HI0.out HI1.out hk5.2
             have HA1 := aS hA1
             have HLT : Aside0 (((q00 o e1).f5.take i.toNat).length = i.toNat) := ⟨by rw [List.length_take]; have h1_ := HI0.out; have h2_ := HI1.out; omega⟩
             obtain ⟨A12, hcut2, hA2, hC2⟩ := print_drop_of (P := Tryd.prog) (Value.int .i64) 0 31 3 .i64 Tryd.underlying31 hi01 hsz1 A5 c5 (q00 o e1).f5 i HI0.out HI1.out hk5.2
             have HA2 := aS hA2
             have HLD : Aside0 (((q00 o e1).f5.drop i.toNat).length = (q00 o e1).f5.length - i.toNat) := ⟨List.length_drop⟩
             clear hA1 hA2 hC1 hC2 hi01 hsz1 hk5
             go_upto_region 31 with (fail)
             refine start_ (n := 17) (S := fun w' => w'.cell? ⟨gx, 5, none⟩ = some (.slice A5 (q00 o e1).f5.length c5) ∧ w'.cell? ⟨ge, 2, none⟩ = some (.int .i64 e2)) (ds := [16]) #[false, false, false, false, false, false, false, false, false, false, false, false, false, false, false, false, false] (by kernel_rfl) rfl rfl ⟨(bk6 HIc.out.2.1).2.2.2.2.2.1, (bk12 (q01 EK0.out HBc.out)).2.2.1⟩ (fun hHeld => ?_)
             refine q0o (i := 1) (N := some 143) (v := ?_) (a' := ?_) #[false, true, false, false, false, false, false, false, false, false, false, false, false, false, false, false, false] rfl rfl (by kernel_rfl) (fun _ _ _ h => h) (Or.inl ⟨by rfl, ?_⟩) ?_ ?_
             rotate_left
             ·intro w'
              go_simp
              with_reducible rfl
             rotate_left
             ·simp only [Act.put, s1, s2, s3, q0g, q0h]
              rfl
             refine q0o (i := 3) (N := some 145) (v := ?_) (a' := ?_) #[false, true, false, true, false, false, false, false, false, false, false, false, false, false, false, false, false] rfl rfl (by kernel_rfl) (fun _ _ _ h => h) (Or.inl ⟨by rfl, ?_⟩) ?_ ?_
             rotate_left
             ·intro w'
              go_simp
              with_reducible rfl
             rotate_left
             ·simp only [Act.put, s1, s2, s3, q0g, q0h]
              rfl
             refine q0o (i := 6) (N := some 148) (v := ?_) (a' := ?_) #[false, true, false, true, false, false, true, false, false, false, false, false, false, false, false, false, false] rfl rfl (by kernel_rfl) (fun _ _ _ h => h) (Or.inl ⟨by rfl, ?_⟩) ?_ ?_
             rotate_left
             ·intro w'
              go_simp
              with_reducible rfl
             rotate_left
             ·simp only [Act.put, s1, s2, s3, q0g, q0h]
              rfl
             refine q0o (i := 10) (N := some 152) (v := ?_) (a' := ?_) #[false, true, false, true, false, false, true, false, false, false, true, false, false, false, false, false, false] rfl rfl (by kernel_rfl) (fun _ _ _ h => h) (Or.inl ⟨by rfl, ?_⟩) ?_ ?_
             rotate_left
             ·intro w'
              go_simp
              with_reducible rfl
             rotate_left
             ·simp only [Act.put, s1, s2, s3, q0g, q0h]
              rfl
             refine q0o (i := 12) (N := some 154) (v := ?_) (a' := ?_) #[false, true, false, true, false, false, true, false, false, false, true, false, true, false, false, false, false] rfl rfl (by kernel_rfl) (fun _ _ _ h => h) (Or.inl ⟨by rfl, ?_⟩) ?_ ?_
             rotate_left
             ·intro w'
              go_simp
              with_reducible rfl
             rotate_left
             ·simp only [Act.put, s1, s2, s3, q0g, q0h]
              rfl
             refine take_ (i := 2) (N := some 144) (v := ?_) (a' := ?_) #[false, true, true, true, false, false, true, false, false, false, true, false, true, false, false, false, false] rfl rfl (by kernel_rfl) (fun _ _ _ h => h) (Or.inl ⟨by rfl, ?_⟩) hHeld ?_ ?_
             rotate_left
             ·rintro w' ⟨s0, s1⟩
              go_simp
              with_reducible rfl
             rotate_left
             ·simp only [Act.put, s1, s2, s3, q0g, q0h]
              rfl
             refine q0o (i := 4) (N := some 146) (v := ?_) (a' := ?_) #[false, true, true, true, true, false, true, false, false, false, true, false, true, false, false, false, false] rfl rfl (by kernel_rfl) (fun _ _ _ h => h) (Or.inl ⟨by rfl, ?_⟩) ?_ ?_
             rotate_left
             ·intro w'
              go_simp
              with_reducible rfl
             rotate_left
             ·simp only [Act.put, s1, s2, s3, q0g, q0h]
              rfl
             refine take_ (i := 7) (N := some 149) (v := ?_) (a' := ?_) #[false, true, true, true, true, false, true, true, false, false, true, false, true, false, false, false, false] rfl rfl (by kernel_rfl) (fun _ _ _ h => h) (Or.inl ⟨by rfl, ?_⟩) hHeld ?_ ?_
             rotate_left
             ·rintro w' ⟨s0, s1⟩
              go_simp
              with_reducible rfl
             rotate_left
             ·simp only [Act.put, s1, s2, s3, q0g, q0h]
              rfl
             refine take_ (i := 11) (N := some 153) (v := ?_) (a' := ?_) #[false, true, true, true, true, false, true, true, false, false, true, true, true, false, false, false, false] rfl rfl (by kernel_rfl) (fun _ _ _ h => h) (Or.inl ⟨by rfl, ?_⟩) hHeld ?_ ?_
             rotate_left
             ·rintro w' ⟨s0, s1⟩
              go_simp
              with_reducible rfl
             rotate_left
             ·simp only [Act.put, s1, s2, s3, q0g, q0h]
              rfl
             refine q0o (i := 13) (N := some 155) (v := ?_) (a' := ?_) #[false, true, true, true, true, false, true, true, false, false, true, true, true, true, false, false, false] rfl rfl (by kernel_rfl) (fun _ _ _ h => h) (Or.inl ⟨by rfl, ?_⟩) ?_ ?_
             rotate_left
             ·intro w'
              go_simp
              with_reducible rfl
             rotate_left
             ·simp only [Act.put, s1, s2, s3, q0g, q0h]
              rfl
             refine join_ (σ := Value × Value × Value) 4 #[true, true, true, true, true, true, true, true, true, false, true, true, true, true, false, false, false] (fun s => [(142, s.1), (147, s.2.1), (150, s.2.2)]) (fun s w' => Aside0 (Below w7.heap.size w7 w') ∧ Aside0 (InEd w7 w' T g gx b cap o q2 e1 #[.int .i64 (q00 o e1).f0, .string (q00 o e1).f1, .slice A2 (q00 o e1).f2.length c2, .string (q00 o e1).f3, .int .i64 (q00 o e1).f4, .slice A5 (q00 o e1).f5.length c5] A2 c2 A5 c5) ∧ Aside0 ((Kd.int .i64).R 3 w' w7.heap.size (fun k => T ≤ k ∧ k ≠ gx) s.2.1 ((q00 o e1).f5.take i.toNat)) ∧ Aside0 ((Kd.int .i64).R 3 w' w7.heap.size (fun k => T ≤ k ∧ k ≠ gx) s.2.2 [e2])) ?_ ?_
             rotate_left
             ·intro hCont
              refine two_ (i := 0) (j := 8) (Ni := some 142) (Nj := some 150) #[true, true, true, true, true, false, true, true, false, false, true, true, true, true, false, false, false] #[false, true, true, true, true, false, true, true, true, false, true, true, true, true, false, false, false] rfl rfl rfl rfl (by kernel_rfl) (by decide) (by decide) (fun K hK => ?_) (fun K hK => ?_)
              ·skip
               refine Kd.R_lit_step (Kd.int .i64) (w0 := w7) w7.heap.size 3 ?hg (N := 142) ?hd (xs := ([] : List Int)) (inner := []) (ok := (fun k => T ≤ k ∧ k ≠ gx)) (okp := fun _ => False) ?hr ?hp (fun _ hk => hk.elim) ?hf ?hB ?hS (by simp) ?_
               (case hd => rfl)
               (case hg => rfl)
               (case hr => first | (go_simp; done) | (go_simp; rfl))
               (case hp => exact Reps.none _ _)
               (case hf => exact ⟨Nat.le_of_lt (Nat.lt_of_le_of_lt HIc.out.tg (q09 HIc.out.blk)), Nat.ne_of_gt (q09 HIc.out.blk)⟩)
               (case hB => exact (z8 HBc.out))
               (case hS => exact q03 (z8 HBc.out))
               intro v42 w42 ho hb hg hat
               have n_HB := aS hb
               have n_HI := aS (InEd.grown (by repeat (first | exact HIc.out | refine InEd.below ?_ (q0k (Below.refl _ _) _) | refine InEd.below ?_ (q0j (Below.refl _ _)))) hg (fun k hk => by cases hk))
               have n_HA := aS ho
               clear hb hg hat ho HBc HIc
               have HBc := n_HB
               have HIc := n_HI
               have HAc := n_HA
               clear n_HB n_HI n_HA
               refine hK.out _ _ ⟨(bk6 HIc.out.2.1).2.2.2.2.2.1, (bk12 (q01 EK0.out HBc.out)).2.2.1⟩ (fun hHeld => ?_)
               clear hK K
               refine q1v (a' := ?_) ?_ ?_
               rotate_left
               ·show Act.put _ (some 142) _ = _
                simp only [Act.put, s1, s2, s3, q0g, q0h]
                rfl
               refine two_ (i := 5) (j := 8) (Ni := some 147) (Nj := some 150) #[true, true, true, true, true, true, true, true, false, false, true, true, true, true, false, false, false] #[true, true, true, true, true, false, true, true, true, false, true, true, true, true, false, false, false] rfl rfl rfl rfl (by kernel_rfl) (by decide) (by decide) (fun K hK => ?_) (fun K hK => ?_)
               ·skip
                refine Kd.R_append_rows_step (Kd.int .i64) (w0 := w7) w7.heap.size (by rfl) (.tmp 142) (.tmp 146) 31 3 (.int .i64 0) 8 rfl Tryd.underlying31 info3 rfl (by decide) (by omega) v42 ([] : List Int) ((q00 o e1).f5.take i.toNat) _ _ _ (fun k => T ≤ k ∧ k ≠ gx) (fun _ => False) rfl rfl ?aO ?aR (fun _ _ h => h) (fun _ h => h.elim) ?aF ?aB ?aS ?aL ?_
                (case aR => exact (by have h_ := Kd.C_of_reads (h1 := fun _ => rfl) (HA1.out _ (Kd.reads_of_C (InEd.kids HIc.out HN0.out HN1.out).1)); first | exact h_ | (rw [List.length_take] at h_; exact h_)))
                (case aB => exact (z8 HBc.out))
                (case aF => exact fun k hk => (by have h1_ := q09 HIc.out.blk; have h2_ := HIc.out.tg; exact ⟨by omega, by omega⟩))
                (case aO => exact (by repeat (first | exact HAc.out | apply rA | apply rN | apply rD)))
                (case aS => exact q03 (z8 HBc.out))
                (case aL => have h_ := HLT.out; have h2_ := HI2.out; have h3_ := HI1.out; simp only [List.length_nil, Nat.zero_add]; omega)
                intro v47 w47 ho hb hg hat
                rw [List.nil_append] at ho
                have n_HB := aS hb
                have n_HI := aS (InEd.grown (by repeat (first | exact HIc.out | refine InEd.below ?_ (q0k (Below.refl _ _) _) | refine InEd.below ?_ (q0j (Below.refl _ _)))) hg (fun k hk => HAc.out.1 k hk))
                have n_HA := aS ho
                clear hb hg hat ho HBc HIc HAc
                have HBc := n_HB
                have HIc := n_HI
                have HAc := n_HA
                clear n_HB n_HI n_HA
                refine hK.out _ _ ⟨(bk6 HIc.out.2.1).2.2.2.2.2.1, (bk12 (q01 EK0.out HBc.out)).2.2.1⟩ (fun hHeld => ?_)
                clear hK K
                refine q1v (a' := ?_) ?_ ?_
                rotate_left
                ·show Act.put _ (some 147) _ = _
                 simp only [Act.put, s1, s2, s3, q0g, q0h]
                 rfl
                refine one_ (i := 8) (N := some 150) #[true, true, true, true, true, true, true, true, true, false, true, true, true, true, false, false, false] rfl rfl (by kernel_rfl) (by decide) (fun K hK => ?_)
                refine Kd.R_lit_step (Kd.int .i64) (w0 := w7) w7.heap.size 3 ?hg (N := 150) ?hd (xs := [e2]) (inner := [.int .i64 e2]) (ok := (fun k => T ≤ k ∧ k ≠ gx)) (okp := fun _ => False) ?hr ?hp (fun _ hk => hk.elim) ?hf ?hB ?hS (by simp) ?_
                (case hd => rfl)
                (case hg => rfl)
                (case hr => first | (go_simp; done) | (go_simp; rfl))
                (case hp => exact Reps.one (by first | rfl | exact rfl | (simp [Kd.M, Kd.int]; done)) (Reps.none _ _))
                (case hf => exact ⟨Nat.le_of_lt (Nat.lt_of_le_of_lt HIc.out.tg (q09 HIc.out.blk)), Nat.ne_of_gt (q09 HIc.out.blk)⟩)
                (case hB => exact (z8 HBc.out))
                (case hS => exact q03 (z8 HBc.out))
                intro v50 w50 ho hb hg hat
                have n_HB := aS hb
                have n_HI := aS (InEd.grown (by repeat (first | exact HIc.out | refine InEd.below ?_ (q0k (Below.refl _ _) _) | refine InEd.below ?_ (q0j (Below.refl _ _)))) hg (fun k hk => by cases hk))
                have n_HL := aS ho
                have n_HA := aS (Kd.R_grown2 (by repeat (first | exact HAc.out | apply rA | apply rN | apply rD)) rfl hg (fun k hk => by cases hk))
                have n_HN := aS (show ∀ k, v47.ownBlock = some k → some k ≠ v50.ownBlock from fun k hk e_ => by obtain ⟨b_, h1_, h2_⟩ := hat; have h3_ := Kd.R_lt (by repeat (first | exact HAc.out | apply rA | apply rN | apply rD)) k hk; rw [h1_] at e_; injection e_ with e_; omega)
                clear hb hg hat ho HBc HIc HAc
                have HBc := n_HB
                have HIc := n_HI
                have HAc := n_HA
                have HLc := n_HL
                have HNc := n_HN
                clear n_HB n_HI n_HA n_HL n_HN
                refine hK.out _ _ ⟨(bk6 HIc.out.2.1).2.2.2.2.2.1, (bk12 (q01 EK0.out HBc.out)).2.2.1⟩ (fun hHeld => ?_)
                clear hK K
                refine q1v (a' := ?_) ?_ ?_
                rotate_left
                ·show Act.put _ (some 150) _ = _
                 simp only [Act.put, s1, s2, s3, q0g, q0h]
                 rfl
                exact q1v (by simp only [putAll, Act.put, List.setIfInBounds_toArray, List.set_cons_zero, List.set_cons_succ]) (hCont (v42, v47, v50) _ ⟨HBc, HIc, HAc, HLc⟩)
               ·skip
                refine Kd.R_lit_step (Kd.int .i64) (w0 := w7) w7.heap.size 3 ?hg (N := 150) ?hd (xs := [e2]) (inner := [.int .i64 e2]) (ok := (fun k => T ≤ k ∧ k ≠ gx)) (okp := fun _ => False) ?hr ?hp (fun _ hk => hk.elim) ?hf ?hB ?hS (by simp) ?_
                (case hd => rfl)
                (case hg => rfl)
                (case hr => first | (go_simp; done) | (go_simp; rfl))
                (case hp => exact Reps.one (by first | rfl | exact rfl | (simp [Kd.M, Kd.int]; done)) (Reps.none _ _))
                (case hf => exact ⟨Nat.le_of_lt (Nat.lt_of_le_of_lt HIc.out.tg (q09 HIc.out.blk)), Nat.ne_of_gt (q09 HIc.out.blk)⟩)
                (case hB => exact (z8 HBc.out))
                (case hS => exact q03 (z8 HBc.out))
                intro v50 w50 ho hb hg hat
                have n_HB := aS hb
                have n_HI := aS (InEd.grown (by repeat (first | exact HIc.out | refine InEd.below ?_ (q0k (Below.refl _ _) _) | refine InEd.below ?_ (q0j (Below.refl _ _)))) hg (fun k hk => by cases hk))
                have n_HL := aS ho
                have n_HA := aS (Kd.R_grown2 (by repeat (first | exact HAc.out | apply rA | apply rN | apply rD)) rfl hg (fun k hk => by cases hk))
                have n_HN := aS (show ∀ k, v42.ownBlock = some k → some k ≠ v50.ownBlock from fun k hk e_ => by obtain ⟨b_, h1_, h2_⟩ := hat; have h3_ := Kd.R_lt (by repeat (first | exact HAc.out | apply rA | apply rN | apply rD)) k hk; rw [h1_] at e_; injection e_ with e_; omega)
                clear hb hg hat ho HBc HIc HAc
                have HBc := n_HB
                have HIc := n_HI
                have HAc := n_HA
                have HLc := n_HL
                have HNc := n_HN
                clear n_HB n_HI n_HA n_HL n_HN
                refine hK.out _ _ ⟨(bk6 HIc.out.2.1).2.2.2.2.2.1, (bk12 (q01 EK0.out HBc.out)).2.2.1⟩ (fun hHeld => ?_)
                clear hK K
                refine q1v (a' := ?_) ?_ ?_
                rotate_left
                ·show Act.put _ (some 150) _ = _
                 simp only [Act.put, s1, s2, s3, q0g, q0h]
                 rfl
                refine one_ (i := 5) (N := some 147) #[true, true, true, true, true, true, true, true, true, false, true, true, true, true, false, false, false] rfl rfl (by kernel_rfl) (by decide) (fun K hK => ?_)
                refine Kd.R_append_rows_step (Kd.int .i64) (w0 := w7) w7.heap.size (by rfl) (.tmp 142) (.tmp 146) 31 3 (.int .i64 0) 8 rfl Tryd.underlying31 info3 rfl (by decide) (by omega) v42 ([] : List Int) ((q00 o e1).f5.take i.toNat) _ _ _ (fun k => T ≤ k ∧ k ≠ gx) (fun _ => False) rfl rfl ?aO ?aR (fun _ _ h => h) (fun _ h => h.elim) ?aF ?aB ?aS ?aL ?_
                (case aR => exact (by have h_ := Kd.C_of_reads (h1 := fun _ => rfl) (HA1.out _ (Kd.reads_of_C (InEd.kids HIc.out HN0.out HN1.out).1)); first | exact h_ | (rw [List.length_take] at h_; exact h_)))
                (case aB => exact (z8 HBc.out))
                (case aF => exact fun k hk => (by have h1_ := q09 HIc.out.blk; have h2_ := HIc.out.tg; exact ⟨by omega, by omega⟩))
                (case aO => exact (by repeat (first | exact HAc.out | apply rA | apply rN | apply rD)))
                (case aS => exact q03 (z8 HBc.out))
                (case aL => have h_ := HLT.out; have h2_ := HI2.out; have h3_ := HI1.out; simp only [List.length_nil, Nat.zero_add]; omega)
                intro v47 w47 ho hb hg hat
                rw [List.nil_append] at ho
                have n_HB := aS hb
                have n_HI := aS (InEd.grown (by repeat (first | exact HIc.out | refine InEd.below ?_ (q0k (Below.refl _ _) _) | refine InEd.below ?_ (q0j (Below.refl _ _)))) hg (fun k hk => HAc.out.1 k hk))
                have n_HA := aS ho
                have n_HL := aS (Kd.R_grown2 (by repeat (first | exact HLc.out | apply rA | apply rN | apply rD)) rfl hg HNc.out)
                have n_HN := aS (show ∀ k, v47.ownBlock = some k → some k ≠ v50.ownBlock from fun k hk e_ => by rcases hat with h1_ | ⟨b_, h1_, h2_⟩; exact HNc.out k (h1_.symm.trans hk) e_; have h3_ := Kd.R_lt (by repeat (first | exact HLc.out | apply rA | apply rN | apply rD)) k e_.symm; rw [h1_] at hk; injection hk with hk; omega)
                clear hb hg hat ho HBc HIc HAc HLc HNc
                have HBc := n_HB
                have HIc := n_HI
                have HAc := n_HA
                have HLc := n_HL
                have HNc := n_HN
                clear n_HB n_HI n_HA n_HL n_HN
                refine hK.out _ _ ⟨(bk6 HIc.out.2.1).2.2.2.2.2.1, (bk12 (q01 EK0.out HBc.out)).2.2.1⟩ (fun hHeld => ?_)
                clear hK K
                refine q1v (a' := ?_) ?_ ?_
                rotate_left
                ·show Act.put _ (some 147) _ = _
                 simp only [Act.put, s1, s2, s3, q0g, q0h]
                 rfl
                exact q1v (by simp only [putAll, Act.put, List.setIfInBounds_toArray, List.set_cons_zero, List.set_cons_succ]) (hCont (v42, v47, v50) _ ⟨HBc, HIc, HAc, HLc⟩)
              ·skip
               refine Kd.R_lit_step (Kd.int .i64) (w0 := w7) w7.heap.size 3 ?hg (N := 150) ?hd (xs := [e2]) (inner := [.int .i64 e2]) (ok := (fun k => T ≤ k ∧ k ≠ gx)) (okp := fun _ => False) ?hr ?hp (fun _ hk => hk.elim) ?hf ?hB ?hS (by simp) ?_
               (case hd => rfl)
               (case hg => rfl)
               (case hr => first | (go_simp; done) | (go_simp; rfl))
               (case hp => exact Reps.one (by first | rfl | exact rfl | (simp [Kd.M, Kd.int]; done)) (Reps.none _ _))
               (case hf => exact ⟨Nat.le_of_lt (Nat.lt_of_le_of_lt HIc.out.tg (q09 HIc.out.blk)), Nat.ne_of_gt (q09 HIc.out.blk)⟩)
               (case hB => exact (z8 HBc.out))
               (case hS => exact q03 (z8 HBc.out))
               intro v50 w50 ho hb hg hat
               have n_HB := aS hb
               have n_HI := aS (InEd.grown (by repeat (first | exact HIc.out | refine InEd.below ?_ (q0k (Below.refl _ _) _) | refine InEd.below ?_ (q0j (Below.refl _ _)))) hg (fun k hk => by cases hk))
               have n_HL := aS ho
               clear hb hg hat ho HBc HIc
               have HBc := n_HB
               have HIc := n_HI
               have HLc := n_HL
               clear n_HB n_HI n_HL
               refine hK.out _ _ ⟨(bk6 HIc.out.2.1).2.2.2.2.2.1, (bk12 (q01 EK0.out HBc.out)).2.2.1⟩ (fun hHeld => ?_)
               clear hK K
               refine q1v (a' := ?_) ?_ ?_
               rotate_left
               ·show Act.put _ (some 150) _ = _
                simp only [Act.put, s1, s2, s3, q0g, q0h]
                rfl
               refine one_ (i := 0) (N := some 142) #[true, true, true, true, true, false, true, true, true, false, true, true, true, true, false, false, false] rfl rfl (by kernel_rfl) (by decide) (fun K hK => ?_)
               refine Kd.R_lit_step (Kd.int .i64) (w0 := w7) w7.heap.size 3 ?hg (N := 142) ?hd (xs := ([] : List Int)) (inner := []) (ok := (fun k => T ≤ k ∧ k ≠ gx)) (okp := fun _ => False) ?hr ?hp (fun _ hk => hk.elim) ?hf ?hB ?hS (by simp) ?_
               (case hd => rfl)
               (case hg => rfl)
               (case hr => first | (go_simp; done) | (go_simp; rfl))
               (case hp => exact Reps.none _ _)
               (case hf => exact ⟨Nat.le_of_lt (Nat.lt_of_le_of_lt HIc.out.tg (q09 HIc.out.blk)), Nat.ne_of_gt (q09 HIc.out.blk)⟩)
               (case hB => exact (z8 HBc.out))
               (case hS => exact q03 (z8 HBc.out))
               intro v42 w42 ho hb hg hat
               have n_HB := aS hb
               have n_HI := aS (InEd.grown (by repeat (first | exact HIc.out | refine InEd.below ?_ (q0k (Below.refl _ _) _) | refine InEd.below ?_ (q0j (Below.refl _ _)))) hg (fun k hk => by cases hk))
               have n_HA := aS ho
               have n_HL := aS (Kd.R_grown2 (by repeat (first | exact HLc.out | apply rA | apply rN | apply rD)) rfl hg (fun k hk => by cases hk))
               have n_HN := aS (show ∀ k, v42.ownBlock = some k → some k ≠ v50.ownBlock from fun k hk e_ => by obtain ⟨b_, h1_, h2_⟩ := hat; have h3_ := Kd.R_lt (by repeat (first | exact HLc.out | apply rA | apply rN | apply rD)) k e_.symm; rw [h1_] at hk; injection hk with hk; omega)
               clear hb hg hat ho HBc HIc HLc
               have HBc := n_HB
               have HIc := n_HI
               have HAc := n_HA
               have HLc := n_HL
               have HNc := n_HN
               clear n_HB n_HI n_HA n_HL n_HN
               refine hK.out _ _ ⟨(bk6 HIc.out.2.1).2.2.2.2.2.1, (bk12 (q01 EK0.out HBc.out)).2.2.1⟩ (fun hHeld => ?_)
               clear hK K
               refine q1v (a' := ?_) ?_ ?_
               rotate_left
               ·show Act.put _ (some 142) _ = _
                simp only [Act.put, s1, s2, s3, q0g, q0h]
                rfl
               refine one_ (i := 5) (N := some 147) #[true, true, true, true, true, true, true, true, true, false, true, true, true, true, false, false, false] rfl rfl (by kernel_rfl) (by decide) (fun K hK => ?_)
               refine Kd.R_append_rows_step (Kd.int .i64) (w0 := w7) w7.heap.size (by rfl) (.tmp 142) (.tmp 146) 31 3 (.int .i64 0) 8 rfl Tryd.underlying31 info3 rfl (by decide) (by omega) v42 ([] : List Int) ((q00 o e1).f5.take i.toNat) _ _ _ (fun k => T ≤ k ∧ k ≠ gx) (fun _ => False) rfl rfl ?aO ?aR (fun _ _ h => h) (fun _ h => h.elim) ?aF ?aB ?aS ?aL ?_
               (case aR => exact (by have h_ := Kd.C_of_reads (h1 := fun _ => rfl) (HA1.out _ (Kd.reads_of_C (InEd.kids HIc.out HN0.out HN1.out).1)); first | exact h_ | (rw [List.length_take] at h_; exact h_)))
               (case aB => exact (z8 HBc.out))
               (case aF => exact fun k hk => (by have h1_ := q09 HIc.out.blk; have h2_ := HIc.out.tg; exact ⟨by omega, by omega⟩))
               (case aO => exact (by repeat (first | exact HAc.out | apply rA | apply rN | apply rD)))
               (case aS => exact q03 (z8 HBc.out))
               (case aL => have h_ := HLT.out; have h2_ := HI2.out; have h3_ := HI1.out; simp only [List.length_nil, Nat.zero_add]; omega)
               intro v47 w47 ho hb hg hat
               rw [List.nil_append] at ho
               have n_HB := aS hb
               have n_HI := aS (InEd.grown (by repeat (first | exact HIc.out | refine InEd.below ?_ (q0k (Below.refl _ _) _) | refine InEd.below ?_ (q0j (Below.refl _ _)))) hg (fun k hk => HAc.out.1 k hk))
               have n_HA := aS ho
               have n_HL := aS (Kd.R_grown2 (by repeat (first | exact HLc.out | apply rA | apply rN | apply rD)) rfl hg HNc.out)
               have n_HN := aS (show ∀ k, v47.ownBlock = some k → some k ≠ v50.ownBlock from fun k hk e_ => by rcases hat with h1_ | ⟨b_, h1_, h2_⟩; exact HNc.out k (h1_.symm.trans hk) e_; have h3_ := Kd.R_lt (by repeat (first | exact HLc.out | apply rA | apply rN | apply rD)) k e_.symm; rw [h1_] at hk; injection hk with hk; omega)
               clear hb hg hat ho HBc HIc HAc HLc HNc
               have HBc := n_HB
               have HIc := n_HI
               have HAc := n_HA
               have HLc := n_HL
               have HNc := n_HN
               clear n_HB n_HI n_HA n_HL n_HN
               refine hK.out _ _ ⟨(bk6 HIc.out.2.1).2.2.2.2.2.1, (bk12 (q01 EK0.out HBc.out)).2.2.1⟩ (fun hHeld => ?_)
               clear hK K
               refine q1v (a' := ?_) ?_ ?_
               rotate_left
               ·show Act.put _ (some 147) _ = _
                simp only [Act.put, s1, s2, s3, q0g, q0h]
                rfl
               exact q1v (by simp only [putAll, Act.put, List.setIfInBounds_toArray, List.set_cons_zero, List.set_cons_succ]) (hCont (v42, v47, v50) _ ⟨HBc, HIc, HAc, HLc⟩)
             rintro ⟨v42, v47, v50⟩ w32 ⟨HBc, HIc, HAc, HLc⟩
             have hHeld : w32.cell? ⟨gx, 5, none⟩ = some (.slice A5 (q00 o e1).f5.length c5) ∧ w32.cell? ⟨ge, 2, none⟩ = some (.int .i64 e2) := ⟨(bk6 HIc.out.2.1).2.2.2.2.2.1, (bk12 (q01 EK0.out HBc.out)).2.2.1⟩
             refine q1v (a' := ?_) ?_ ?_
             rotate_left
             ·simp only [putAll, Act.put, List.setIfInBounds_toArray, List.set_cons_zero, List.set_cons_succ]
              rfl
             refine one_ (i := 9) (N := some 151) #[true, true, true, true, true, true, true, true, true, true, true, true, true, true, false, false, false] rfl rfl (by kernel_rfl) (by decide) (fun K hK => ?_)
             obtain ⟨A50, c50, e50_⟩ := Kd.R_slice HLc.out
             subst e50_
             refine Kd.R_append_rows_step (Kd.int .i64) (w0 := w7) w7.heap.size (by rfl) (.tmp 147) (.tmp 150) 31 3 (.int .i64 0) 8 rfl Tryd.underlying31 info3 rfl (by decide) (by omega) v47 ((q00 o e1).f5.take i.toNat) [e2] _ _ _ (fun k => T ≤ k ∧ k ≠ gx) (fun _ => False) rfl rfl ?aO ?aR (fun _ _ h => h) (fun _ h => h.elim) ?aF ?aB ?aS ?aL ?_
             (case aR => exact (Kd.R_reads' (by repeat (first | exact HLc.out | apply rA | apply rN | apply rD))).2.2)
             (case aB => exact (z8 HBc.out))
             (case aF => exact fun k hk => (by have h1_ := q09 HIc.out.blk; have h2_ := HIc.out.tg; exact ⟨by omega, by omega⟩))
             (case aO => exact (by repeat (first | exact HAc.out | apply rA | apply rN | apply rD)))
             (case aS => exact q03 (z8 HBc.out))
             (case aL => have h_ := HLT.out; have h2_ := HI2.out; have h3_ := HI1.out; simp only [List.length_cons, List.length_nil]; omega)
             intro v51 w51 ho hb hg hat
             have n_HB := aS hb
             have n_HI := aS (InEd.grown (by repeat (first | exact HIc.out | refine InEd.below ?_ (q0k (Below.refl _ _) _) | refine InEd.below ?_ (q0j (Below.refl _ _)))) hg (fun k hk => HAc.out.1 k hk))
             have n_HA := aS ho
             clear hb hg hat ho HBc HIc HAc
             have HBc := n_HB
             have HIc := n_HI
             have HAc := n_HA
             clear n_HB n_HI n_HA
             clear HLc
             refine hK.out _ _ ⟨(bk6 HIc.out.2.1).2.2.2.2.2.1, (bk12 (q01 EK0.out HBc.out)).2.2.1⟩ (fun hHeld => ?_)
             clear hK K
             refine q1v (a' := ?_) ?_ ?_
             rotate_left
             ·show Act.put _ (some 151) _ = _
              simp only [Act.put, s1, s2, s3, q0g, q0h]
              rfl
             refine one_ (i := 14) (N := some 156) #[true, true, true, true, true, true, true, true, true, true, true, true, true, true, true, false, false] rfl rfl (by kernel_rfl) (by decide) (fun K hK => ?_)
             refine Kd.R_append_rows_step (Kd.int .i64) (w0 := w7) w7.heap.size (by rfl) (.tmp 151) (.tmp 155) 31 3 (.int .i64 0) 8 rfl Tryd.underlying31 info3 rfl (by decide) (by omega) v51 ((q00 o e1).f5.take i.toNat ++ [e2]) ((q00 o e1).f5.drop i.toNat) _ _ _ (fun k => T ≤ k ∧ k ≠ gx) (fun _ => False) rfl rfl ?aO ?aR (fun _ _ h => h) (fun _ h => h.elim) ?aF ?aB ?aS ?aL ?_
             (case aR => exact (by have h_ := Kd.C_of_reads (h1 := fun _ => rfl) (HA2.out _ (Kd.reads_of_C (InEd.kids HIc.out HN0.out HN1.out).1)); first | exact h_ | (rw [List.length_drop] at h_; exact h_)))
             (case aB => exact (z8 HBc.out))
             (case aF => exact fun k hk => (by have h1_ := q09 HIc.out.blk; have h2_ := HIc.out.tg; exact ⟨by omega, by omega⟩))
             (case aO => exact (by repeat (first | exact HAc.out | apply rA | apply rN | apply rD)))
             (case aS => exact q03 (z8 HBc.out))
             (case aL => have h_ := HLT.out; have h4_ := HLD.out; have h2_ := HI2.out; have h3_ := HI1.out; simp only [List.length_append, List.length_cons, List.length_nil]; omega)
             intro v56 w56 ho hb hg hat
             have n_HB := aS hb
             have n_HI := aS (InEd.grown (by repeat (first | exact HIc.out | refine InEd.below ?_ (q0k (Below.refl _ _) _) | refine InEd.below ?_ (q0j (Below.refl _ _)))) hg (fun k hk => HAc.out.1 k hk))
             have n_HA := aS ho
             clear hb hg hat ho HBc HIc HAc
             have HBc := n_HB
             have HIc := n_HI
             have HAc := n_HA
             clear n_HB n_HI n_HA
             obtain ⟨A56, c56, e56_⟩ := Kd.R_slice HAc.out
             generalize HN56_ : ((q00 o e1).f5.take i.toNat ++ [e2] ++ (q00 o e1).f5.drop i.toNat).length = n56 at e56_
             have HN56 := aS HN56_
             clear HN56_
             subst e56_
             have hxf := (bk6 HIc.out.2.1).2.2.2.2.2.2.2.2.2.2.2
             refine hK.out _ _ ⟨(bk6 HIc.out.2.1).2.2.2.2.2.1, (bk12 (q01 EK0.out HBc.out)).2.2.1⟩ (fun hHeld => ?_)
             clear hK K
             refine q1v (a' := ?_) ?_ ?_
             rotate_left
             ·show Act.put _ (some 156) _ = _
              simp only [Act.put, s1, s2, s3, q0g, q0h]
              rfl
             refine q0o (i := 15) (N := some 157) (v := ?_) (a' := ?_) #[true, true, true, true, true, true, true, true, true, true, true, true, true, true, true, true, false] rfl rfl (by kernel_rfl) (fun _ _ _ h => h) (Or.inl ⟨by rfl, ?_⟩) ?_ ?_
             rotate_left
             ·intro w'
              go_simp
              with_reducible rfl
             rotate_left
             ·simp only [Act.put, s1, s2, s3, q0g, q0h]
              rfl
             refine last_ (i := 16) (N := none) #[true, true, true, true, true, true, true, true, true, true, true, true, true, true, true, true, true] rfl rfl (by kernel_rfl) (by decide) (fun K hK => ?_)
             refine skip_ (w1 := ?_) (by rfl) rfl ?_ ?_
             rotate_left
             ·go_simp
              rfl
             refine hK.out _ _ ?_
             clear hK K
             refine done_ (by kernel_rfl) ?_
             all_goals
              have HI5 := aS (InEd.putx (cs' := #[.int .i64 (q00 o e1).f0, .string (q00 o e1).f1, .slice A2 (q00 o e1).f2.length c2, .string (q00 o e1).f3, .int .i64 (q00 o e1).f4, .slice A56 n56 c56]) HIc.out 5 (.slice A56 n56 c56) rfl)
              have HB5 := aS (q0f (j := 5) (v := .slice A56 n56 c56) HBc.out HIc.out.gxge)
              have HR5 := aS (Kd.R_far HAc.out (p := ⟨gx, 5, none⟩) (fun k hk e_ => hk.2 e_) (.slice A56 n56 c56))
              clear HIc HBc HAc hxf
              generalize w56.setCell ⟨gx, 5, none⟩ (.slice A56 n56 c56) = wk at HI5 HB5 HR5 ⊢
              obtain ⟨hz0, hz1, -, -⟩ := bk2 HI5.out.1.1
              have hqq_ := bk6 HI5.out.2.1
              obtain ⟨hq0, hq1, hq2, hq3, hq4, hq5, hqf0, hqf1, hqf2, hqf3, hqf4, hqf5⟩ := hqq_
              obtain ⟨ha0, ha1, ha2, ha3, ha4, ha5, ha6, ha7, ha8, ha9, ha10, ha11⟩ := bk12 (q01 EK0.out HB5.out)
              obtain ⟨_, _, _, _, _, _, _, _, y4, _, _, _, _, _, fz_⟩ := q0w.elem HI5.out.1 e2 HT0.out HT1.out
              have y4z := fz_ 4
              clear fz_
              have p0 := eq_true HT0.out
              have p1 := eq_true HT1.out
              go_upto_region 33 with (fail)
              have HNE := aS (show b ≠ gx from fun e_ => by have h1_ := HI5.out.1.ge.2.2; have h2_ := HI5.out.tg; omega)
              have HO3 := aS (q0w.par HI5.out.1 e2 HT0.out HT1.out e1)
              have XK3 : Aside0 ((wk.setCell ⟨b, e2.toNat * 6 + 4, none⟩ (.int .i64 e1)).heap[gx]? = some (.cells #[.int .i64 (q00 o e1).f0, .string (q00 o e1).f1, .slice A2 (q00 o e1).f2.length c2, .string (q00 o e1).f3, .int .i64 (q00 o e1).f4, .slice A56 n56 c56] 43 (0, 0))) := ⟨(Below.heap_setCell wk _ _ gx (fun e_ => HNE.out e_.symm)).trans HI5.out.blk⟩
              have HB6 := aS (q0f (j := e2.toNat * 6 + 4) (v := .int .i64 e1) HB5.out HI5.out.1.ge.1)
              have R23 : Aside0 ((wk.setCell ⟨b, e2.toNat * 6 + 4, none⟩ (.int .i64 e1)).cell? ⟨b, e1.toNat * 6 + 2, none⟩ = some (.slice A2 (q00 o e1).f2.length c2)) := ⟨(World.cell?_setCell_other _ _ _ _ (by intro e_; injection e_ with _ e_; omega)).trans HI5.out.2.2.1⟩
              have HR6 := aS (Kd.R_far HR5.out (p := ⟨b, e2.toNat * 6 + 4, none⟩) (fun k hk e_ => by have h1_ := hk.1; have h2_ := HI5.out.1.ge.2.2; have e_ : k = b := e_; omega) (.int .i64 e1))
              have HTG := aS (show T ≤ gx ∧ g < T from ⟨HI5.out.tg, HI5.out.2.2.2.2.2⟩)
              have HLN : Aside0 (e1 < ((o.set e2.toNat { (q00 o e2) with f4 := e1 }).length : Int)) := ⟨by rw [List.length_set]; exact HN1.out⟩
              have HRX := aS (rd_set_ne o e2 { (q00 o e2) with f4 := e1 } e1 HT0.out HN0.out HT2.out)
              clear hz0 hz1 hq0 hq1 hq2 hq3 hq4 hq5 hqf0 hqf1 hqf2 hqf3 hqf4 hqf5 ha0 ha1 ha2 ha3 ha4 ha5 ha6 ha7 ha8 ha9 ha10 ha11
              clear y4 y4z p0 p1 HI5 HB5 HR5
              generalize wk.setCell ⟨b, e2.toNat * 6 + 4, none⟩ (.int .i64 e1) = wt at HO3 XK3 HB6 R23 HR6 ⊢
              have ZK3 : Aside0 (wt.heap[g]? = some (.cells #[.slice (some ⟨b, 0, none⟩) o.length cap, .bool q2] 24 (0, 0))) := ⟨by have h_ := HO3.out.1; rw [List.length_set] at h_; exact h_⟩
              have HR7 : Aside0 ((Kd.int .i64).R 3 wt w7.heap.size (fun k => T ≤ k ∧ k ≠ gx) (.slice A56 n56 c56) ((q00 o e1).f5.take i.toNat ++ e2 :: (q00 o e1).f5.drop i.toNat)) := ⟨by have h_ := HR6.out; rw [List.append_assoc] at h_; exact h_⟩
              obtain ⟨hz0, hz1, -, -⟩ := bk2 ZK3.out
              have hqq_ := bk6 XK3.out
              obtain ⟨hq0, hq1, hq2, hq3, hq4, hq5, hqf0, hqf1, hqf2, hqf3, hqf4, hqf5⟩ := hqq_
              obtain ⟨ha0, ha1, ha2, ha3, ha4, ha5, ha6, ha7, ha8, ha9, ha10, ha11⟩ := bk12 (q01 EK0.out HB6.out)
              go_upto_region 37 with (fail)
              have HTH := aS (q0w.there HO3.out e1 HN0.out HLN.out)
              have HW9 := aS (q0w.whole HO3.out (Nat.le_trans HTG.out.1 (Nat.le_of_lt (q09 XK3.out))) e1 HN0.out HLN.out { (q00 o e1) with f5 := (q00 o e1).f5.take i.toNat ++ e2 :: (q00 o e1).f5.drop i.toNat } (.slice A2 (q00 o e1).f2.length c2) (.slice A56 n56 c56) (.inl ⟨R23.out, by rw [HRX.out]⟩) (.inr (Kd.R_mono (Kd.R_bound HR7.out) (fun k hk => ⟨hk.1.1, hk.2.2.1, fun e_ => by have h1_ := hk.1.1; have h2_ := HTG.out.2; omega⟩))))
              have HB9_ := aS (q1q HW9.out.ge.1 [.int .i64 (q00 o e1).f0, .string (q00 o e1).f1, .slice A2 (q00 o e1).f2.length c2, .string (q00 o e1).f3, .int .i64 (q00 o e1).f4, .slice A56 n56 c56] (e1.toNat * 6) HB6.out)
              go_wp2_with (refine wpList_store_mid (by rfl) 43 (.tmp 198) (.tmp 197) (by rfl) b (e1.toNat * 6) #[.int .i64 (q00 o e1).f0, .string (q00 o e1).f1, .slice A2 (q00 o e1).f2.length c2, .string (q00 o e1).f3, .int .i64 (q00 o e1).f4, .slice A56 n56 c56] ?hx ?hy ?hT ?hI ?h1 ?_; go_must ((case hx => rfl); (case hy => rfl); (case hT => exact HTH.out); (case hI => kernel_rfl); (case h1 => first | rfl | (simp [Value.oneCell']; done) | (simp; done) | decide)))
              go_meet
              exact ⟨rfl, ⟨⟨_, _, _, HW9.out⟩⟩, HB9_⟩
          ·rw [if_neg d5] at hm
           have d5b : (e0 == 5) = false := beq_eq_false_iff_ne.mpr d5
           clear d5
           by_cases d6 : e0 = 6
           ·rw [if_pos d6] at hm
            have d6b : (e0 == 6) = true := beq_iff_eq.mpr d6
            clear d6
            as_aux_lemma =>
             refine iGp hm ?_
             clear hm
             intro ⟨t0, t1, t2⟩ hm
             have HT0 := aS t0
             have HT1 := aS t1
             have HT2 := aS t2
             obtain ⟨i, hi, hm⟩ := Option.bind_eq_some_iff.1 hm
             obtain ⟨l, hl, hm⟩ := Option.bind_eq_some_iff.1 hm
             have HI := aS hi
             have HLL := aS hl
             clear t0 t1 t2 hi hl
             go_upto_region 35 with (fail)
             obtain ⟨P2, d2, P5, d5, -, -, -, -, -, y5, -, -, l5, C5, -⟩ := q0w.elem HIE1.out.1 (q00 o e1).f4 HT0.out HT1.out
             have p0 := eq_true HT0.out
             have p1 := eq_true HT1.out
             simp only [Option.some.injEq] at hm
             subst hm
             clear hz1 hq0 hq1 hq2 hq3 hq4 hq5 hqf0 hqf1 hqf2 hqf3 hqf4 hqf5 ha0 ha2 ha3 ha4 ha5 ha6 ha7 ha8 ha9 ha10 ha11
             refine start_ (n := 22) (S := fun w' => w'.cell? ⟨g, 0, none⟩ = some (.slice (some ⟨b, 0, none⟩) o.length cap) ∧ w'.cell? ⟨b, (q00 o e1).f4.toNat * 6 + 5, none⟩ = some (.slice P5 (q00 o (q00 o e1).f4).f5.length d5) ∧ w'.cell? ⟨ge, 1, none⟩ = some (.int .i64 e1)) (ds := [21]) #[false, false, false, false, false, false, false, false, false, false, false, false, false, false, false, false, false, false, false, false, false, false] (by kernel_rfl) rfl rfl ⟨hz0, y5, ha1⟩ (fun hHeld => ?_)
             refine q0o (i := 0) (N := some 171) (v := ?_) (a' := ?_) #[true, false, false, false, false, false, false, false, false, false, false, false, false, false, false, false, false, false, false, false, false, false] rfl rfl (by kernel_rfl) (fun _ _ _ h => h) (Or.inl ⟨by rfl, ?_⟩) ?_ ?_
             rotate_left
             ·intro w'
              go_simp
              with_reducible rfl
             rotate_left
             ·simp only [Act.put, s1, s2, s3, q0g, q0h]
              rfl
             refine q0o (i := 2) (N := some 173) (v := ?_) (a' := ?_) #[true, false, true, false, false, false, false, false, false, false, false, false, false, false, false, false, false, false, false, false, false, false] rfl rfl (by kernel_rfl) (fun _ _ _ h => h) (Or.inl ⟨by rfl, ?_⟩) ?_ ?_
             rotate_left
             ·intro w'
              go_simp
              with_reducible rfl
             rotate_left
             ·simp only [Act.put, s1, s2, s3, q0g, q0h]
              rfl
             refine q0o (i := 3) (N := some 174) (v := ?_) (a' := ?_) #[true, false, true, true, false, false, false, false, false, false, false, false, false, false, false, false, false, false, false, false, false, false] rfl rfl (by kernel_rfl) (fun _ _ _ h => h) (Or.inl ⟨by rfl, ?_⟩) ?_ ?_
             rotate_left
             ·intro w'
              go_simp
              with_reducible rfl
             rotate_left
             ·simp only [Act.put, s1, s2, s3, q0g, q0h]
              rfl
             refine q0o (i := 5) (N := some 176) (v := ?_) (a' := ?_) #[true, false, true, true, false, true, false, false, false, false, false, false, false, false, false, false, false, false, false, false, false, false] rfl rfl (by kernel_rfl) (fun _ _ _ h => h) (Or.inl ⟨by rfl, ?_⟩) ?_ ?_
             rotate_left
             ·intro w'
              go_simp
              with_reducible rfl
             rotate_left
             ·simp only [Act.put, s1, s2, s3, q0g, q0h]
              rfl
             refine q0o (i := 9) (N := some 180) (v := ?_) (a' := ?_) #[true, false, true, true, false, true, false, false, false, true, false, false, false, false, false, false, false, false, false, false, false, false] rfl rfl (by kernel_rfl) (fun _ _ _ h => h) (Or.inl ⟨by rfl, ?_⟩) ?_ ?_
             rotate_left
             ·intro w'
              go_simp
              with_reducible rfl
             rotate_left
             ·simp only [Act.put, s1, s2, s3, q0g, q0h]
              rfl
             refine q0o (i := 11) (N := some 182) (v := ?_) (a' := ?_) #[true, false, true, true, false, true, false, false, false, true, false, true, false, false, false, false, false, false, false, false, false, false] rfl rfl (by kernel_rfl) (fun _ _ _ h => h) (Or.inl ⟨by rfl, ?_⟩) ?_ ?_
             rotate_left
             ·intro w'
              go_simp
              with_reducible rfl
             rotate_left
             ·simp only [Act.put, s1, s2, s3, q0g, q0h]
              rfl
             refine q0o (i := 15) (N := some 186) (v := ?_) (a' := ?_) #[true, false, true, true, false, true, false, false, false, true, false, true, false, false, false, true, false, false, false, false, false, false] rfl rfl (by kernel_rfl) (fun _ _ _ h => h) (Or.inl ⟨by rfl, ?_⟩) ?_ ?_
             rotate_left
             ·intro w'
              go_simp
              with_reducible rfl
             rotate_left
             ·simp only [Act.put, s1, s2, s3, q0g, q0h]
              rfl
             refine take_ (i := 1) (N := some 172) (v := ?_) (a' := ?_) #[true, true, true, true, false, true, false, false, false, true, false, true, false, false, false, true, false, false, false, false, false, false] rfl rfl (by kernel_rfl) (fun _ _ _ h => h) (Or.inl ⟨by rfl, ?_⟩) hHeld ?_ ?_
             rotate_left
             ·rintro w' ⟨s0, s1, s2⟩
              go_simp
              with_reducible rfl
             rotate_left
             ·simp only [Act.put, s1, s2, s3, q0g, q0h]
              rfl
             refine take_ (i := 4) (N := some 175) (v := ?_) (a' := ?_) #[true, true, true, true, true, true, false, false, false, true, false, true, false, false, false, true, false, false, false, false, false, false] rfl rfl (by kernel_rfl) (fun _ _ _ h => h) (Or.inl ⟨by rfl, ?_⟩) hHeld ?_ ?_
             rotate_left
             ·rintro w' ⟨s0, s1, s2⟩
              go_simp
              with_reducible rfl
             rotate_left
             ·simp only [Act.put, s1, s2, s3, q0g, q0h]
              rfl
             refine q0o (i := 6) (N := some 177) (v := ?_) (a' := ?_) #[true, true, true, true, true, true, true, false, false, true, false, true, false, false, false, true, false, false, false, false, false, false] rfl rfl (by kernel_rfl) (fun _ _ _ h => h) (Or.inl ⟨by rfl, ?_⟩) ?_ ?_
             rotate_left
             ·intro w'
              go_simp
              with_reducible rfl
             rotate_left
             ·simp only [Act.put, s1, s2, s3, q0g, q0h]
              rfl
             refine q0o (i := 7) (N := some 178) (v := ?_) (a' := ?_) #[true, true, true, true, true, true, true, true, false, true, false, true, false, false, false, true, false, false, false, false, false, false] rfl rfl (by kernel_rfl) (fun _ _ _ h => h) (Or.inl ⟨by rfl, ?_⟩) ?_ ?_
             rotate_left
             ·intro w'
              go_simp
              with_reducible rfl
             rotate_left
             ·simp only [Act.put, s1, s2, s3, q0g, q0h]
              rfl
             refine take_ (i := 8) (N := some 179) (v := ?_) (a' := ?_) #[true, true, true, true, true, true, true, true, true, true, false, true, false, false, false, true, false, false, false, false, false, false] rfl rfl (by kernel_rfl) (fun _ _ _ h => h) (Or.inl ⟨by rfl, ?_⟩) hHeld ?_ ?_
             rotate_left
             ·rintro w' ⟨s0, s1, s2⟩
              go_simp
              with_reducible rfl
             rotate_left
             ·simp only [Act.put, s1, s2, s3, q0g, q0h]
              rfl
             refine take_ (i := 10) (N := some 181) (v := ?_) (a' := ?_) #[true, true, true, true, true, true, true, true, true, true, true, true, false, false, false, true, false, false, false, false, false, false] rfl rfl (by kernel_rfl) (fun _ _ _ h => h) (Or.inl ⟨by rfl, ?_⟩) hHeld ?_ ?_
             rotate_left
             ·rintro w' ⟨s0, s1, s2⟩
              go_simp
              with_reducible rfl
             rotate_left
             ·simp only [Act.put, s1, s2, s3, q0g, q0h]
              rfl
             refine q0o (i := 12) (N := some 183) (v := ?_) (a' := ?_) #[true, true, true, true, true, true, true, true, true, true, true, true, true, false, false, true, false, false, false, false, false, false] rfl rfl (by kernel_rfl) (fun _ _ _ h => h) (Or.inl ⟨by rfl, ?_⟩) ?_ ?_
             rotate_left
             ·intro w'
              go_simp
              with_reducible rfl
             rotate_left
             ·simp only [Act.put, s1, s2, s3, q0g, q0h]
              rfl
             refine q0o (i := 13) (N := some 184) (v := ?_) (a' := ?_) #[true, true, true, true, true, true, true, true, true, true, true, true, true, true, false, true, false, false, false, false, false, false] rfl rfl (by kernel_rfl) (fun _ _ _ h => h) (Or.inl ⟨by rfl, ?_⟩) ?_ ?_
             rotate_left
             ·intro w'
              go_simp
              with_reducible rfl
             rotate_left
             ·simp only [Act.put, s1, s2, s3, q0g, q0h]
              rfl
             refine take_ (i := 14) (N := some 185) (v := ?_) (a' := ?_) #[true, true, true, true, true, true, true, true, true, true, true, true, true, true, true, true, false, false, false, false, false, false] rfl rfl (by kernel_rfl) (fun _ _ _ h => h) (Or.inl ⟨by rfl, ?_⟩) hHeld ?_ ?_
             rotate_left
             ·rintro w' ⟨s0, s1, s2⟩
              go_simp
              with_reducible rfl
             rotate_left
             ·simp only [Act.put, s1, s2, s3, q0g, q0h]
              rfl
             refine take_ (i := 16) (N := some 187) (v := ?_) (a' := ?_) #[true, true, true, true, true, true, true, true, true, true, true, true, true, true, true, true, true, false, false, false, false, false] rfl rfl (by kernel_rfl) (fun _ _ _ h => h) (Or.inl ⟨by rfl, ?_⟩) hHeld ?_ ?_
             rotate_left
             ·rintro w' ⟨s0, s1, s2⟩
              go_simp
              with_reducible rfl
             rotate_left
             ·simp only [Act.put, s1, s2, s3, q0g, q0h]
              rfl
             refine one_ (i := 17) (N := some 188) #[true, true, true, true, true, true, true, true, true, true, true, true, true, true, true, true, true, true, false, false, false, false] rfl rfl (by kernel_rfl) (by decide) (fun K hK => ?_)
             refine goes_ Tryd.func74 (by kernel_rfl) rfl #[.slice P5 (q00 o (q00 o e1).f4).f5.length d5, .int .i64 e1] (by rfl) rfl rfl (by simp only [List.map_toArray, List.map_cons, List.map_nil]; rfl) ?_
             with_reducible refine (clerestoryref1_placeIn.calls k P5 d5 (q00 o (q00 o e1).f4).f5 e1 i _ (by first | exact C5.out | exact Kd.C_drew C5.out) l5.out HI.out).mono ?_
             rintro e w30 ⟨rfl, hd⟩
             refine ⟨_, rfl, ?_⟩
             have hbx := below_c (q0q hd)
             clear hd
             have HI3 := aS (InEd.below HIE1.out hbx)
             have HB3 := aS (q02 HB1.out hbx)
             have C53 := aS (Kd.C_below C5.out hbx)
             have y53 := (hbx.cell (World.block_lt_of_cell? _ _ y5)).trans y5
             clear hz0 y5 ha1 hbx
             have y5 := y53
             clear y53
             obtain ⟨hz0, -, -, -⟩ := bk2 HI3.out.1.1
             obtain ⟨-, ha1, -, -, -, -, -, -, -, -, -, -⟩ := bk12 (q01 EK0.out HB3.out)
             refine hK.out _ _ ⟨hz0, y5, ha1⟩ (fun hHeld => ?_)
             clear hK K
             refine q1v (a' := ?_) ?_ ?_
             rotate_left
             ·show Act.put _ (some 188) _ = _
              simp only [Act.put, s1, s2, s3, q0g, q0h]
              rfl
             refine one_ (i := 18) (N := some 189) #[true, true, true, true, true, true, true, true, true, true, true, true, true, true, true, true, true, true, true, false, false, false] rfl rfl (by kernel_rfl) (by decide) (fun K hK => ?_)
             refine goes_ Tryd.func108 (by kernel_rfl) rfl #[.slice P5 (q00 o (q00 o e1).f4).f5.length d5, .int .i64 i] (by rfl) rfl rfl (by simp only [List.map_toArray, List.map_cons, List.map_nil]; rfl) ?_
             with_reducible refine (clerestoryref1_without.calls P5 d5 (q00 o (q00 o e1).f4).f5 i l _ C53.out l5.out HLL.out).mono ?_
             rintro e w31 ⟨v31, rfl, hr31, hbx⟩
             refine ⟨_, rfl, ?_⟩
             obtain ⟨A31, c31, e31_⟩ := Kd.R_slice hr31
             subst e31_
             have HR31 := aS (show (Kd.int .i64).R 3 w31 w30.heap.size (fun _ => True) (.slice A31 l.length c31) l from hr31)
             have HI4 := aS (InEd.below HI3.out hbx)
             have HB4 := aS (q02 HB3.out hbx)
             have HS4 := aS (show gx < w30.heap.size from q09 HI3.out.2.1)
             have y53 := (hbx.cell (World.block_lt_of_cell? _ _ y5)).trans y5
             clear hz0 y5 ha1 hbx hr31
             have y5 := y53
             clear y53
             obtain ⟨hz0, -, -, -⟩ := bk2 HI4.out.1.1
             obtain ⟨-, ha1, -, -, -, -, -, -, -, -, -, -⟩ := bk12 (q01 EK0.out HB4.out)
             obtain ⟨_, _, _, _, _, _, _, _, _, _, _, _, _, _, fz_⟩ := q0w.elem HI4.out.1 (q00 o e1).f4 HT0.out HT1.out
             have y5z := fz_ 5
             clear fz_
             refine hK.out _ _ ⟨hz0, y5, ha1⟩ (fun hHeld => ?_)
             clear hK K
             refine q1v (a' := ?_) ?_ ?_
             rotate_left
             ·show Act.put _ (some 189) _ = _
              simp only [Act.put, s1, s2, s3, q0g, q0h]
              rfl
             refine q0o (i := 19) (N := some 190) (v := ?_) (a' := ?_) #[true, true, true, true, true, true, true, true, true, true, true, true, true, true, true, true, true, true, true, true, false, false] rfl rfl (by kernel_rfl) (fun _ _ _ h => h) (Or.inl ⟨by rfl, ?_⟩) ?_ ?_
             rotate_left
             ·intro w'
              go_simp
              with_reducible rfl
             rotate_left
             ·simp only [Act.put, s1, s2, s3, q0g, q0h]
              rfl
             refine q0o (i := 20) (N := some 191) (v := ?_) (a' := ?_) #[true, true, true, true, true, true, true, true, true, true, true, true, true, true, true, true, true, true, true, true, true, false] rfl rfl (by kernel_rfl) (fun _ _ _ h => h) (Or.inl ⟨by rfl, ?_⟩) ?_ ?_
             rotate_left
             ·intro w'
              go_simp
              with_reducible rfl
             rotate_left
             ·simp only [Act.put, s1, s2, s3, q0g, q0h]
              rfl
             refine last_ (i := 21) (N := none) #[true, true, true, true, true, true, true, true, true, true, true, true, true, true, true, true, true, true, true, true, true, true] rfl rfl (by kernel_rfl) (by decide) (fun K hK => ?_)
             refine skip_ (w1 := ?_) (by rfl) rfl ?_ ?_
             rotate_left
             ·go_simp
              rfl
             refine hK.out _ _ ?_
             clear hK K
             refine done_ (by kernel_rfl) ?_
             all_goals
              clear p0 p1 hz0 y5 ha1 y5z
              obtain ⟨W1, hW1⟩ : ∃ W, w31.setCell ⟨b, (q00 o e1).f4.toNat * 6 + 5, none⟩ (.slice A31 l.length c31) = W := ⟨_, rfl⟩
              rw [hW1]
              have HW1 := aS hW1
              have HNE := aS (show b ≠ gx from fun e_ => by have h1_ := HI4.out.1.ge.2.2; have h2_ := HI4.out.2.2.2.2.1; omega)
              have XK1 : Aside0 (W1.heap[gx]? = some (.cells #[.int .i64 (q00 o e1).f0, .string (q00 o e1).f1, .slice A2 (q00 o e1).f2.length c2, .string (q00 o e1).f3, .int .i64 (q00 o e1).f4, .slice A5 (q00 o e1).f5.length c5] 43 (0, 0))) := ⟨by rw [← hW1]; exact (Below.heap_setCell w31 _ _ gx (fun e_ => HNE.out e_.symm)).trans HI4.out.2.1⟩
              have ZK1 : Aside0 (W1.heap[g]? = some (.cells #[.slice (some ⟨b, 0, none⟩) o.length cap, .bool q2] 24 (0, 0))) := ⟨by rw [← hW1]; exact (Below.heap_setCell w31 _ _ g (fun e_ => HI4.out.1.ge.2.1 e_.symm)).trans HI4.out.1.1⟩
              have HB5 : Aside0 (Below w7.heap.size w7 W1) := ⟨by rw [← hW1]; exact q0f (j := (q00 o e1).f4.toNat * 6 + 5) (v := .slice A31 l.length c31) HB4.out HI4.out.1.ge.1⟩
              have R2 : Aside0 (W1.cell? ⟨b, e1.toNat * 6 + 2, none⟩ = some (.slice A2 (q00 o e1).f2.length c2)) := ⟨by rw [← hW1, World.cell?_setCell_other _ _ _ _ (by intro e_; injection e_ with _ e_; omega)]; exact HI4.out.2.2.1⟩
              have R5 : Aside0 (W1.cell? ⟨b, e1.toNat * 6 + 5, none⟩ = some (.slice A5 (q00 o e1).f5.length c5)) := ⟨by rw [← hW1, World.cell?_setCell_other _ _ _ _ (by intro e_; injection e_ with _ e_; have h1_ := HT0.out; have h2_ := HN0.out; have h3_ := HT2.out; omega)]; exact HI4.out.2.2.2.1⟩
              clear hW1
              obtain ⟨hz0, hz1, -, -⟩ := bk2 ZK1.out
              have hqq_ := bk6 XK1.out
              obtain ⟨hq0, hq1, hq2, hq3, hq4, hq5, hqf0, hqf1, hqf2, hqf3, hqf4, hqf5⟩ := hqq_
              obtain ⟨ha0, ha1, ha2, ha3, ha4, ha5, ha6, ha7, ha8, ha9, ha10, ha11⟩ := bk12 (q01 EK0.out HB5.out)
              go_upto_region 37 with (fail)
              have HO3 : Aside0 (q0w w7 (W1.setCell ⟨gx, 4, none⟩ (.int .i64 (-1))) w31.heap.size g b cap (o.set (q00 o e1).f4.toNat { (q00 o (q00 o e1).f4) with f5 := l }) q2) := ⟨by
               rw [← HW1.out, setCell_comm _ _ _ _ _ (show (⟨b, (q00 o e1).f4.toNat * 6 + 5, none⟩ : Addr).block ≠ (⟨gx, 4, none⟩ : Addr).block from HNE.out)]
               exact q0w.kids (q0w.far HI4.out.1 (p := ⟨gx, 4, none⟩) HI4.out.2.2.2.2.1 HI4.out.2.2.2.2.2 (.int .i64 (-1))) (Nat.le_trans HI4.out.2.2.2.2.1 (Nat.le_of_lt (q09 HI4.out.2.1))) (q00 o e1).f4 HT0.out HT1.out l (.slice A31 l.length c31) (Kd.R_mono (Kd.R_lower (Kd.R_far (Kd.R_bound HR31.out) (p := ⟨gx, 4, none⟩) (fun k hk e_ => by have h1_ := hk.2.1; have h2_ := HS4.out; have e_ : k = gx := e_; omega) (.int .i64 (-1))) (Below.size HB3.out)) (fun k hk => ⟨by have h1_ := hk.2.1; have h2_ := HS4.out; have h3_ := HI4.out.2.2.2.2.1; omega, hk.2.2.1, fun e_ => by have h1_ := hk.2.1; have h2_ := HS4.out; have h3_ := HI4.out.2.2.2.2.1; have h4_ := HI4.out.2.2.2.2.2; omega⟩))⟩
              have XK3 : Aside0 ((W1.setCell ⟨gx, 4, none⟩ (.int .i64 (-1))).heap[gx]? = some (.cells #[.int .i64 (q00 o e1).f0, .string (q00 o e1).f1, .slice A2 (q00 o e1).f2.length c2, .string (q00 o e1).f3, .int .i64 (-1), .slice A5 (q00 o e1).f5.length c5] 43 (0, 0))) := ⟨(q0p XK1.out 4 (.int .i64 (-1))).trans rfl⟩
              have HB6 := aS (q0f (j := 4) (v := .int .i64 (-1)) HB5.out HI4.out.gxge)
              have R23 : Aside0 ((W1.setCell ⟨gx, 4, none⟩ (.int .i64 (-1))).cell? ⟨b, e1.toNat * 6 + 2, none⟩ = some (.slice A2 (q00 o e1).f2.length c2)) := ⟨(World.cell?_setCell_other _ _ _ _ (by intro e_; injection e_ with e_ _; exact HNE.out e_.symm)).trans R2.out⟩
              have R53 : Aside0 ((W1.setCell ⟨gx, 4, none⟩ (.int .i64 (-1))).cell? ⟨b, e1.toNat * 6 + 5, none⟩ = some (.slice A5 (q00 o e1).f5.length c5)) := ⟨(World.cell?_setCell_other _ _ _ _ (by intro e_; injection e_ with e_ _; exact HNE.out e_.symm)).trans R5.out⟩
              have HLN : Aside0 (e1 < ((o.set (q00 o e1).f4.toNat { (q00 o (q00 o e1).f4) with f5 := l }).length : Int)) := ⟨by rw [List.length_set]; exact HN1.out⟩
              have HRD := aS (rd_set_ne o (q00 o e1).f4 { (q00 o (q00 o e1).f4) with f5 := l } e1 HT0.out HN0.out HT2.out)
              clear hz0 hz1 hq0 hq1 hq2 hq3 hq4 hq5 hqf0 hqf1 hqf2 hqf3 hqf4 hqf5 ha0 ha1 ha2 ha3 ha4 ha5 ha6 ha7 ha8 ha9 ha10 ha11
              generalize W1.setCell ⟨gx, 4, none⟩ (.int .i64 (-1)) = wt at HO3 XK3 HB6 R23 R53 ⊢
              have ZK3 : Aside0 (wt.heap[g]? = some (.cells #[.slice (some ⟨b, 0, none⟩) o.length cap, .bool q2] 24 (0, 0))) := ⟨by have h_ := HO3.out.1; rw [List.length_set] at h_; exact h_⟩
              obtain ⟨hz0, hz1, -, -⟩ := bk2 ZK3.out
              have hqq_ := bk6 XK3.out
              obtain ⟨hq0, hq1, hq2, hq3, hq4, hq5, hqf0, hqf1, hqf2, hqf3, hqf4, hqf5⟩ := hqq_
              obtain ⟨ha0, ha1, ha2, ha3, ha4, ha5, ha6, ha7, ha8, ha9, ha10, ha11⟩ := bk12 (q01 EK0.out HB6.out)
              have HTH := aS (q0w.there HO3.out e1 HN0.out HLN.out)
              have HW9 := aS (q0w.whole HO3.out (Nat.le_refl _) e1 HN0.out HLN.out { (q00 o e1) with f4 := -1 } (.slice A2 (q00 o e1).f2.length c2) (.slice A5 (q00 o e1).f5.length c5) (.inl ⟨R23.out, by rw [HRD.out]⟩) (.inl ⟨R53.out, by rw [HRD.out]⟩))
              have HB9_ := aS (q1q HW9.out.ge.1 [.int .i64 (q00 o e1).f0, .string (q00 o e1).f1, .slice A2 (q00 o e1).f2.length c2, .string (q00 o e1).f3, .int .i64 (-1), .slice A5 (q00 o e1).f5.length c5] (e1.toNat * 6) HB6.out)
              go_wp2_with (refine wpList_store_mid (by rfl) 43 (.tmp 198) (.tmp 197) (by rfl) b (e1.toNat * 6) #[.int .i64 (q00 o e1).f0, .string (q00 o e1).f1, .slice A2 (q00 o e1).f2.length c2, .string (q00 o e1).f3, .int .i64 (-1), .slice A5 (q00 o e1).f5.length c5] ?hx ?hy ?hT ?hI ?h1 ?_; go_must ((case hx => rfl); (case hy => rfl); (case hT => exact HTH.out); (case hI => kernel_rfl); (case h1 => first | rfl | (simp [Value.oneCell']; done) | (simp; done) | decide)))
              go_meet
              exact ⟨rfl, ⟨⟨_, _, _, HW9.out⟩⟩, HB9_⟩
           ·rw [if_neg d6] at hm
            have d6b : (e0 == 6) = false := beq_eq_false_iff_ne.mpr d6
            clear d6
            as_aux_lemma =>
             simp only [Option.some.injEq] at hm
             subst hm
             go_upto_region 37 with (fail)
             have HTH := aS (q0w.there HIE1.out.1 e1 HN0.out HN1.out)
             have HW9 := aS (q0w.whole HIE1.out.1 (Nat.le_refl T) e1 HN0.out HN1.out (q00 o e1) (.slice A2 (q00 o e1).f2.length c2) (.slice A5 (q00 o e1).f5.length c5) (.inl ⟨HIE1.out.2.2.1, rfl⟩) (.inl ⟨HIE1.out.2.2.2.1, rfl⟩))
             have HB9_ := aS (q1q HW9.out.ge.1 [.int .i64 (q00 o e1).f0, .string (q00 o e1).f1, .slice A2 (q00 o e1).f2.length c2, .string (q00 o e1).f3, .int .i64 (q00 o e1).f4, .slice A5 (q00 o e1).f5.length c5] (e1.toNat * 6) HB1.out)
             go_wp2_with (refine wpList_store_mid (by rfl) 43 (.tmp 198) (.tmp 197) (by rfl) b (e1.toNat * 6) #[.int .i64 (q00 o e1).f0, .string (q00 o e1).f1, .slice A2 (q00 o e1).f2.length c2, .string (q00 o e1).f3, .int .i64 (q00 o e1).f4, .slice A5 (q00 o e1).f5.length c5] ?hx ?hy ?hT ?hI ?h1 ?_; go_must ((case hx => rfl); (case hy => rfl); (case hT => exact HTH.out); (case hI => kernel_rfl); (case h1 => first | rfl | (simp [Value.oneCell']; done) | (simp; done) | decide)))
             go_meet
             exact ⟨rfl, ⟨⟨_, _, _, HW9.out⟩⟩, HB9_⟩
  case rest =>
   clear HN HI HB9 HE HO EK1 ha0 ha1 ha2 ha3 ha4 ha5 ha6 ha7 ha8 ha9 ha10 ha11
   obtain ⟨rfl, HI0, HB1⟩ := hcut
   obtain ⟨T1, b1, c1, hI1⟩ := HI0.out
   have HI1 := aS hI1
   clear hI1 HI0
   obtain ⟨hz0, hz1, -, -⟩ := bk2 HI1.out.1
   have RK1 := q01 RK0.out HB1.out
   obtain ⟨hr0, hr1, hrf0, hrf1⟩ := bk2 RK1
   clear RK1
   have GL := aS (q09 RK0.out)
   have h2 := H2.out
   clear H2
   by_cases zt : t ≠ 0
   ·have h3 := (if_pos zt).symm.trans h2
    clear h2
    simp only [Option.some.injEq, Prod.mk.injEq] at h3
    obtain ⟨rfl, rfl, rfl, rfl⟩ := h3
    have z1 : (t != 0) = true := bne_iff_ne.mpr zt
    clear zt
    go_wp2_with (go_at_call 17; refine (clerestoryref1_DocErr.calls k (some ⟨b1, 0, none⟩) c1 p1 q2 t _ (Kd.R_reads' (Kd.S_R HI1.out.2.2)).2.2 (Kd.R_reads' (Kd.S_R HI1.out.2.2)).2.1 HT.out).mono ?_; rintro e w20 ⟨rfl, hbl⟩; have HI2 := aS (q0w.below HI1.out hbl); have HB2 := aS (q02 HW.out (q02 HB1.out hbl)); have RK2 := aS (q01 RK0.out (q02 HB1.out hbl)); clear HI1 HB1 hbl hz0 hz1 hr0 hr1 hrf0 hrf1; obtain ⟨hz0, hz1, -, -⟩ := bk2 HI2.out.1; obtain ⟨hr0, hr1, hrf0, hrf1⟩ := bk2 RK2.out)
    refine bodyPost_ret (results_ctt rfl _ _ gr 24 #[.slice none 0 0, .bool false] (0, 0) _ rfl (q0p (q0p RK2.out 0 _) 1 _) Tryd.underlying24 rfl (by kernel_rfl)) rfl ?_
    exact ⟨_, rfl, Kd.S_nil _ _ _ _ _, q0f (q0f HB2.out GR.out) GR.out⟩
   ·have h3 := (if_neg zt).symm.trans h2
    clear h2
    obtain rfl : t = 0 := Classical.not_not.1 zt
    clear zt
    simp only [Option.some.injEq, Prod.mk.injEq] at h3
    obtain ⟨rfl, rfl, rfl, rfl⟩ := h3
    go_wp2_with (go_at_call 17; refine (clerestoryref1_DocErr.calls k (some ⟨b1, 0, none⟩) c1 p1 q2 0 _ (Kd.R_reads' (Kd.S_R HI1.out.2.2)).2.2 (Kd.R_reads' (Kd.S_R HI1.out.2.2)).2.1 HT.out).mono ?_; rintro e w20 ⟨rfl, hbl⟩; have HI2 := aS (q0w.below HI1.out hbl); have HB2 := aS (q02 HW.out (q02 HB1.out hbl)); have RK2 := aS (q01 RK0.out (q02 HB1.out hbl)); clear HI1 HB1 hbl hz0 hz1 hr0 hr1 hrf0 hrf1; obtain ⟨hz0, hz1, -, -⟩ := bk2 HI2.out.1; obtain ⟨hr0, hr1, hrf0, hrf1⟩ := bk2 RK2.out)
    refine bodyPost_ret (results_ctt rfl _ _ gr 24 #[.slice (some ⟨b1, 0, none⟩) p1.length c1, .bool q2] (0, 0) _ rfl (q0p (q0p RK2.out 0 _) 1 _) Tryd.underlying24 rfl (by kernel_rfl)) rfl ?_
    have hfar : ∀ k, (w7.heap.size ≤ k) → k ≠ gr := fun k hk e_ => by have := GL.out; omega
    exact ⟨_, rfl, Kd.S_mono (Kd.S_far (Kd.S_far (Kd.S_lower (Kd.S_mono (Kd.S_bound HI2.out.2.2) (fun k hk => hk.2.1)) (Below.size HW.out)) hfar _) hfar _) (fun _ _ => trivial), q0f (q0f HB2.out GR.out) GR.out⟩
theorem edl0_mono (nm u : ByteArray) (d : Int) : ∀ k i xs o st, LeO (edl0 nm u d k i xs o st) (edl0 nm u d (k + 1) i xs o st)
 | 0, _, _, _, _ => LeO.none _
 | k + 1, i, xs, o, st => by
  unfold edl0
  repeat' first | with_reducible first | apply edl0_mono nm u d k | exact LeO.refl _ | exact LeO.none _ | refine LeO.ite ?_ ?_
theorem edMid_mono (o : List S43) (d n t2 bf : Int) (nm u : ByteArray) (k : Nat) : LeO (edMid k o d n t2 bf nm u) (edMid (k + 1) o d n t2 bf nm u) := by
 unfold edMid
 repeat' first | with_reducible first | apply edl0_mono | apply clerestoryref1_placeIn.mono | exact LeO.refl _ | exact LeO.none _ | refine LeO.ite ?_ ?_ | refine LeO.bind ?_ (fun _ => ?_)
theorem edNext_mono (o : List S43) (e0 e1 e2 e3 : Int) (e4 e5 : ByteArray) (e6 : Int) (e7 : ByteArray) (l8 : List S122) (e9 : ByteArray) (k : Nat) : LeO (q1s k o e0 e1 e2 e3 e4 e5 e6 e7 l8 e9) (q1s (k + 1) o e0 e1 e2 e3 e4 e5 e6 e7 l8 e9) := by
 unfold q1s
 repeat' first | with_reducible first | apply edMid_mono | exact LeO.refl _ | exact LeO.none _ | refine LeO.ite ?_ ?_ | refine LeO.bind ?_ (fun _ => ?_)
theorem clerestoryref1_Edited.mono (l0 : List S43) (q : Bool) (e0 e1 e2 e3 : Int) (e4 e5 : ByteArray) (e6 : Int) (e7 : ByteArray) (l8 : List S122) (e9 : ByteArray) (e10 : Int) (l11 : List Int) (k : Nat) : LeO (clerestoryref1_Edited.f k l0 q e0 e1 e2 e3 e4 e5 e6 e7 l8 e9 e10 l11) (clerestoryref1_Edited.f (k + 1) l0 q e0 e1 e2 e3 e4 e5 e6 e7 l8 e9 e10 l11) := by
 unfold clerestoryref1_Edited.f
 repeat' first | with_reducible first | apply clerestoryref1_EditErr.mono | apply clerestoryref1_copyDoc.mono | apply edNext_mono | apply clerestoryref1_DocErr.mono | exact LeO.refl _ | exact LeO.none _ | refine LeO.ite ?_ ?_ | refine LeO.bind ?_ (fun _ => ?_)
end Go.Proofs.YthjnallbbhnndaaDoor.XDe
namespace Go.Proofs.YthjnallbbhnndaaDoor.Dm
open Go Go.RowKit Go.Proofs.YthjnallbbhnndaaDoor.XDe Go.Proofs.YthjnallbbhnndaaDoorW.PrintWords Go.Proofs.YthjnallbbhnndaaDoorW.PrintLast
theorem rd_setN (ns : List S43) (a : Int) (x : S43) (i : Int) (h0 : 0 ≤ a) (h1 : a < ns.length) (hi : 0 ≤ i) : q00 (ns.set a.toNat x) i = if i = a then x else q00 ns i := by
  by_cases e : i = a
  · subst e
    rw [if_pos rfl]
    simp [q00, List.getD, show i.toNat < ns.length by omega]
  · rw [if_neg e]
    simp [q00, List.getD, show ¬ a.toNat = i.toNat by omega]
theorem rd_appN (ns : List S43) (x : S43) (i : Int) (hi : 0 ≤ i) (h1 : i < ns.length + 1) : q00 (ns ++ [x]) i = if i = ns.length then x else q00 ns i := by
  by_cases e : i = ns.length
  · subst e
    rw [if_pos rfl]
    simp [q00, List.getD]
  · rw [if_neg e]
    simp [q00, List.getD, List.getElem?_append, show i.toNat < ns.length by omega]
def attrsOk (l : List S122) : Prop := (∀ x ∈ l, nameB x.f0 false = true ∧ x.f1.size ≤ 400) ∧ (l.map fun x => x.f0.toList).Nodup
theorem errA_all (l : List S122) : ∀ d i : Nat, errA l d i = 0 ↔ ∀ j : Nat, i ≤ j → j < i + d → nameB (q06 l (j : Int)).f0 false = true ∧ (q06 l (j : Int)).f1.size ≤ 400 ∧ hasA (l.take j) (q06 l (j : Int)).f0 = false
  | 0, i => ⟨fun _ j h1 h2 => by omega, fun _ => rfl⟩
  | d + 1, i => by
    rw [errA_succ]
    by_cases c1 : nameB (q06 l (i : Int)).f0 false = true
    · rw [if_pos c1]
      by_cases c2 : 400 < (q06 l (i : Int)).f1.size
      · rw [if_pos c2]
        refine ⟨fun h => (by cases h), fun h => ?_⟩
        have := (h i (Nat.le_refl _) (by omega)).2.1
        omega
      · rw [if_neg c2]
        by_cases c3 : hasA (l.take i) (q06 l (i : Int)).f0 = true
        · rw [if_pos c3]
          refine ⟨fun h => (by cases h), fun h => ?_⟩
          have := (h i (Nat.le_refl _) (by omega)).2.2
          rw [c3] at this
          cases this
        · rw [if_neg c3, errA_all l d (i + 1)]
          refine ⟨fun h j h1 h2 => ?_, fun h j h1 h2 => h j (by omega) (by omega)⟩
          by_cases e : j = i
          · subst e; exact ⟨c1, by omega, by simpa using c3⟩
          · exact h j (by omega) (by omega)
    · rw [if_neg c1]
      refine ⟨fun h => (by cases h), fun h => absurd (h i (Nat.le_refl _) (by omega)).1 c1⟩
theorem hasA_false (l : List S122) (nm : ByteArray) : hasA l nm = false ↔ ∀ x ∈ l, x.f0.toList ≠ nm.toList := by
  unfold hasA
  rw [List.any_eq_false]
  exact ⟨fun h x hx e => h x hx (by simpa using e), fun h x hx e => h x hx (by simpa using e)⟩
theorem errA_iff (l : List S122) : errA l l.length 0 = 0 ↔ attrsOk l := by
  rw [errA_all]
  unfold attrsOk
  constructor
  · intro h
    refine ⟨fun x hx => ?_, ?_⟩
    · obtain ⟨j, hj, rfl⟩ := List.mem_iff_getElem.1 hx
      have := h j (Nat.zero_le _) (by omega)
      rw [rdA l j hj] at this
      exact ⟨this.1, this.2.1⟩
    · rw [List.Nodup, List.pairwise_iff_getElem]
      intro i j hi hj hij
      rw [List.length_map] at hi hj
      rw [List.getElem_map, List.getElem_map]
      have := (h j (Nat.zero_le _) (by omega)).2.2
      rw [rdA l j hj] at this
      exact (hasA_false _ _).1 this _ (List.mem_iff_getElem.2 ⟨i, by rw [List.length_take]; omega, by rw [List.getElem_take]⟩)
  · rintro ⟨h1, h2⟩ j _ hj
    rw [Nat.zero_add] at hj
    rw [rdA l j hj]
    refine ⟨(h1 _ (List.getElem_mem _)).1, (h1 _ (List.getElem_mem _)).2, (hasA_false _ _).2 fun x hx => ?_⟩
    obtain ⟨i, hi, rfl⟩ := List.mem_iff_getElem.1 hx
    rw [List.length_take] at hi
    rw [List.getElem_take]
    rw [List.Nodup, List.pairwise_iff_getElem] at h2
    have := h2 i j (by rw [List.length_map]; omega) (by rw [List.length_map]; omega) (by omega)
    rw [List.getElem_map, List.getElem_map] at this
    exact this
theorem q1w (x : S43) : q1x x = 0 ↔ (1 ≤ x.f0 ∧ x.f0 ≤ 5 ∧ bareB x = true ∧ (x.f0 = 2 → nameB x.f1 true = true) ∧ x.f2.length ≤ 12 ∧ attrsOk x.f2 ∧ x.f3.size ≤ 400 ∧ x.f1.size ≤ 400) := by
  rw [← errA_iff]
  unfold q1x
  by_cases c1 : x.f0 < 1 ∨ 5 < x.f0 ∨ bareB x = false
  · rw [if_pos c1]
    refine ⟨fun h => (by cases h), fun h => ?_⟩
    rcases c1 with c | c | c
    · omega
    · omega
    · rw [h.2.2.1] at c; cases c
  · rw [if_neg c1]
    by_cases c2 : x.f0 = 2 ∧ nameB x.f1 true = false
    · rw [if_pos c2]
      refine ⟨fun h => (by cases h), fun h => ?_⟩
      have := h.2.2.2.1 c2.1
      rw [c2.2] at this
      cases this
    · rw [if_neg c2]
      by_cases c3 : 12 < x.f2.length
      · rw [if_pos c3]
        refine ⟨fun h => (by cases h), fun h => by omega⟩
      · rw [if_neg c3]
        by_cases c4 : errA x.f2 x.f2.length 0 ≠ 0
        · rw [if_pos c4]
          exact ⟨fun h => absurd h c4, fun h => absurd h.2.2.2.2.2.1 c4⟩
        · rw [if_neg c4]
          have c4 := Classical.not_not.1 c4
          by_cases c5 : 400 < x.f3.size ∨ 400 < x.f1.size
          · rw [if_pos c5]
            refine ⟨fun h => (by cases h), fun h => by omega⟩
          · rw [if_neg c5]
            refine ⟨fun _ => ⟨by omega, by omega, ?_, ?_, by omega, c4, by omega, by omega⟩, fun _ => rfl⟩
            · cases hb : bareB x with
              | true => rfl
              | false => exact absurd (.inr (.inr hb)) c1
            · intro h2
              cases hb : nameB x.f1 true with
              | true => rfl
              | false => exact absurd ⟨h2, hb⟩ c2
theorem deepN_same {ns ms : List S43} (h : ∀ i : Int, 0 ≤ i → par ms i = par ns i) : ∀ (d : Nat) (i : Int), 0 ≤ i → q1n ms d i = q1n ns d i
  | 0, _, _ => rfl
  | d + 1, i, hi => by
    show (if par ms i ≥ 0 then 1 + q1n ms d (par ms i) else 0) = if par ns i ≥ 0 then 1 + q1n ns d (par ns i) else 0
    rw [h i hi]
    by_cases c : par ns i ≥ 0
    · rw [if_pos c, if_pos c, deepN_same h d _ c]
    · rw [if_neg c, if_neg c]
theorem DocOk.like {ns ms : List S43} (h : DocOk ns) (hl : ms.length = ns.length) (hp : ∀ i : Int, 0 ≤ i → par ms i = par ns i) (hc : ∀ i : Int, 0 ≤ i → kidL ms i = kidL ns i) (hk : ∀ i : Int, 0 ≤ i → kindN ms i = kindN ns i) (hn : ∀ i : Int, 0 ≤ i → i < ns.length → q1x (q00 ms i) = 0) : DocOk ms := by
  refine ⟨by rw [hl]; exact h.many, by rw [hl]; exact h.some_, fun i h0 h1 => hn i h0 (by rw [← hl]; exact h1), fun i h0 h1 => ?_, ?_, fun i c h0 h1 hi => ?_, fun i h0 h1 => ?_, fun c hi => ?_, fun i h0 h1 => ?_, fun i h0 h1 => ?_⟩
  · rw [hk i h0]; exact h.kind i h0 (by rw [← hl]; exact h1)
  · rw [hp 0 (by omega)]; exact h.root
  · rw [hc i h0] at hi
    obtain ⟨a, b, e⟩ := h.kid i c h0 (by rw [← hl]; exact h1) hi
    exact ⟨a, by rw [hl]; exact b, by rw [hp c a]; exact e⟩
  · rw [hc i h0]; exact h.once i h0 (by rw [← hl]; exact h1)
  · rw [hc 0 (by omega)] at hi
    rw [hk c (h.kid 0 c (by omega) (by have := h.some_; omega) hi).1]
    exact h.text c hi
  · rw [hp i h0]
    rcases h.up i h0 (by rw [← hl]; exact h1) with e | ⟨a, b, e⟩
    · exact .inl e
    · exact .inr ⟨a, by rw [hl]; exact b, by rw [hc _ a]; exact e⟩
  · have := h.deep i h0 (by rw [← hl]; exact h1)
    unfold q0n at this ⊢
    rw [hl, deepN_same hp _ i h0]
    exact this
theorem DocOk.write {ns : List S43} (h : DocOk ns) {n : Int} (h0 : 0 ≤ n) (h1 : n < ns.length) {x : S43} (hk : x.f0 = kindN ns n) (hp : x.f4 = par ns n) (hc : x.f5 = kidL ns n) : DocOk (ns.set n.toNat x) ↔ q1x x = 0 := by
  have r := fun i hi => rd_setN ns n x i h0 h1 hi
  constructor
  · intro hd
    have := hd.node n h0 (by rw [List.length_set]; exact h1)
    rw [r n h0, if_pos rfl] at this
    exact this
  · intro hx
    refine h.like (by rw [List.length_set]) (fun i hi => ?_) (fun i hi => ?_) (fun i hi => ?_) (fun i hi hi1 => ?_)
    · unfold par; rw [r i hi]; by_cases e : i = n
      · rw [if_pos e, hp, e]; rfl
      · rw [if_neg e]
    · unfold kidL; rw [r i hi]; by_cases e : i = n
      · rw [if_pos e, hc, e]; rfl
      · rw [if_neg e]
    · unfold kindN; rw [r i hi]; by_cases e : i = n
      · rw [if_pos e, hk, e]; rfl
      · rw [if_neg e]
    · rw [r i hi]; by_cases e : i = n
      · rw [if_pos e]; exact hx
      · rw [if_neg e]; exact h.node i hi hi1
theorem DocOk.more {ns : List S43} (h : DocOk ns) {x : S43} (hx : q1x x = 0) (hk : x.f0 ≠ 1) (hp : x.f4 = -1) (hc : x.f5 = []) : DocOk (ns ++ [x]) ↔ ns.length < 200 := by
  have hl : (ns ++ [x]).length = ns.length + 1 := by rw [List.length_append]; rfl
  have hs := h.some_
  have r := fun i hi h1 => rd_appN ns x i hi h1
  have pr : ∀ i : Int, 0 ≤ i → i < ns.length → par (ns ++ [x]) i = par ns i ∧ kidL (ns ++ [x]) i = kidL ns i ∧ kindN (ns ++ [x]) i = kindN ns i := fun i h0 h1 => by
    unfold par kidL kindN; rw [r i h0 (by omega), if_neg (by omega)]; exact ⟨rfl, rfl, rfl⟩
  have pl : par (ns ++ [x]) (ns.length : Int) = -1 ∧ kidL (ns ++ [x]) (ns.length : Int) = [] ∧ kindN (ns ++ [x]) (ns.length : Int) = x.f0 := by
    unfold par kidL kindN; rw [r ns.length (by omega) (by omega), if_pos rfl]; exact ⟨hp, hc, rfl⟩
  constructor
  · intro hd
    have := hd.many
    omega
  · intro hm
    have hdp : ∀ i : Int, 0 ≤ i → i < (ns ++ [x]).length → q0n (ns ++ [x]) i = (if i = ns.length then 0 else q0n ns i) ∧ q0n (ns ++ [x]) i < (ns ++ [x]).length := fun i h0 h1 => by
      refine deep_of_rank (ns := ns ++ [x]) (fun i => if i = ns.length then 0 else q0n ns i) (fun i h0 h1 => ?_) h0 h1
      rw [hl] at h1
      by_cases e : i = ns.length
      · left
        subst e
        rw [pl.1, if_pos rfl]
        exact ⟨by omega, rfl⟩
      · rw [if_neg e, (pr i h0 (by omega)).1]
        rcases h.tree.rank i h0 (by omega) with ⟨a, b⟩ | ⟨a, b, c⟩
        · exact .inl ⟨a, b⟩
        · exact .inr ⟨a, by rw [hl]; omega, by rw [if_neg (by omega)]; exact c⟩
    refine ⟨by omega, by omega, fun i h0 h1 => ?_, fun i h0 h1 => ?_, ?_, fun i c h0 h1 hi => ?_, fun i h0 h1 => ?_, fun c hi => ?_, fun i h0 h1 => ?_, fun i h0 h1 => ?_⟩
    · rw [hl] at h1
      rw [r i h0 (by omega)]
      by_cases e : i = ns.length
      · rw [if_pos e]; exact hx
      · rw [if_neg e]; exact h.node i h0 (by omega)
    · rw [hl] at h1
      by_cases e : i = ns.length
      · subst e
        rw [pl.2.2]
        exact ⟨fun e => absurd e hk, fun e => by omega⟩
      · rw [(pr i h0 (by omega)).2.2]
        exact h.kind i h0 (by omega)
    · rw [(pr 0 (by omega) (by omega)).1]; exact h.root
    · rw [hl] at h1 ⊢
      by_cases e : i = ns.length
      · subst e
        rw [pl.2.1] at hi
        cases hi
      · rw [(pr i h0 (by omega)).2.1] at hi
        obtain ⟨a, b, e⟩ := h.kid i c h0 (by omega) hi
        exact ⟨a, by omega, by rw [(pr c a b).1]; exact e⟩
    · rw [hl] at h1
      by_cases e : i = ns.length
      · subst e; rw [pl.2.1]; exact List.nodup_nil
      · rw [(pr i h0 (by omega)).2.1]; exact h.once i h0 (by omega)
    · rw [(pr 0 (by omega) (by omega)).2.1] at hi
      obtain ⟨a, b, _⟩ := h.kid 0 c (by omega) (by omega) hi
      rw [(pr c a b).2.2]
      exact h.text c hi
    · rw [hl] at h1 ⊢
      by_cases e : i = ns.length
      · subst e; exact .inl pl.1
      · rw [(pr i h0 (by omega)).1]
        rcases h.up i h0 (by omega) with e | ⟨a, b, e⟩
        · exact .inl e
        · exact .inr ⟨a, by omega, by rw [(pr _ a b).2.1]; exact e⟩
    · obtain ⟨e1, e2⟩ := hdp i h0 h1
      refine ⟨?_, by omega⟩
      rw [e1]
      by_cases e : i = ns.length
      · rw [if_pos e]; omega
      · rw [if_neg e]; exact (h.deep i h0 (by rw [hl] at h1; omega)).1
end Go.Proofs.YthjnallbbhnndaaDoor.Dm
