/- Written by this session's program (wip/xp) out of the translation as Lean prints it: for each Go function a Lean function and the proof that the code answers just so, on the conditions named in each statement. -/
import Derived.Test.YthjnallbbhnndaaDoorG3
namespace Go.Proofs.YthjnallbbhnndaaDoor.XSp
open Go.Proofs.YthjnallbbhnndaaDoor.Short Go.RowKit Go.Proofs.YthjnallbbhnndaaDoorW.PrintWords Go.Proofs.YthjnallbbhnndaaDoorW.PrintLast Go.Proofs.YthjnallbbhnndaaDoorW.PrintMore
attribute [local go_sem] max2_int min2_int max_two min_two q1n q1m max_four min_four   -- for this text's walks alone
set_option linter.unusedVariables false
set_option linter.unusedSimpArgs false
def q1b (t : TypeId) (w w' : World) : Prop := ∀ (g : Nat) (cs : Array Value) (t' : TypeId), t' ≠ t → w.heap[g]? = some (.cells cs t' (0, 0)) → w'.heap[g]? = some (.cells cs t' (0, 0))
theorem q1b.refl (t : TypeId) (w : World) : q1b t w w := fun _ _ _ _ h => h
theorem q1b.step {t : TypeId} {w w' w'' : World} (h : q1b t w w') (hb : Below w'.heap.size w' w'') : q1b t w w'' := fun g cs t' ne hg => q01 (h g cs t' ne hg) hb
theorem q1b.trans {t : TypeId} {w w' w'' : World} (h : q1b t w w') (h2 : q1b t w' w'') : q1b t w w'' := fun g cs t' ne hg => h2 g cs t' ne (h g cs t' ne hg)
theorem q1b.grown {t : TypeId} {w w' w'' : World} {row : Option Nat} (h : q1b t w w') (hty : ∀ k, row = some k → ∃ cells, w'.heap[k]? = some (.cells cells t (0, 0))) (hg : w'.grownBy w'' row) : q1b t w w'' := fun g cs t' ne h0 =>
 q0q (h g cs t' ne h0) hg (fun e => by
  obtain ⟨c, hc⟩ := hty g e.symm
  exact absurd rfl (blk_ne (h g cs t' ne h0) hc ne))
theorem kpA {t : TypeId} {w w' : World} (o : Obj) (h : q1b t w w') : q1b t w (w'.alloc o) := h.step (q1a (Below.refl _ _) o)
theorem kpD {t : TypeId} {w w' : World} (h : q1b t w w') : q1b t w w'.drew := h.step (below_drew (Below.refl _ _))
theorem kpN {t : TypeId} {w w' : World} (m : Nat) (h : q1b t w w') : q1b t w (w'.drewN m) := h.step (q19 (Below.refl _ _) m)
theorem q1u {P : Program} {ops : Array Oper} {Q : Exit → Act → World → Prop} {rest : List Oper} {o : Oper} {a : Act} {W : World} (hgd : o.guard = none) {N : Tmp} (_hd : o.dst = some N) {cs : Array Value} {t : TypeId}
 (hrun : (execOp a.eval o).run P W = .ok (.value (.pointer (some ⟨W.heap.size, 0, none⟩))) (W.alloc (.cells cs t (0, 0))))
 (h : ∀ g w1, Aside0 (w1.heap[g]? = some (.cells cs t (0, 0))) → Aside0 (W.heap.size ≤ g) → Aside0 (Below W.heap.size W w1) → wpList P ops Q rest (a.put o.dst (.pointer (some ⟨g, 0, none⟩))) w1) : wpList P ops Q (o :: rest) a W :=
 q0j hgd _hd hrun fun g hg w1 hb hs => h g w1 ⟨hb⟩ ⟨by rw [hg]; exact Nat.le_refl _⟩ ⟨hs⟩
theorem iGq {p : Prop} [Decidable p] {α : Type} {e : Option α} {r : α} {G : Prop} (h : (if p then e else none) = some r) (k : p → e = some r → G) : G := by
 by_cases c : p
 ·rw [if_pos c] at h; exact k c h
 ·rw [if_neg c] at h; cases h
theorem there_blk {w : World} {g : Nat} {cs : Array Value} {t : TypeId} (h : w.heap[g]? = some (.cells cs t (0, 0))) : w.there g 0 cs.size := fun j hj => by
 rw [Nat.zero_add]
 refine ⟨?_, q0k h j⟩
 rw [q03 h j, Array.getElem?_eq_getElem hj]
 rfl
theorem there_len {w : World} {g n : Nat} {cs : Array Value} {t : TypeId} (h : w.heap[g]? = some (.cells cs t (0, 0))) (hn : cs.size = n) : w.there g 0 n := hn ▸ there_blk h
theorem ed_lay (w : World) (g : Nat) (vs : List Value) : ∀ (n : Nat) (wx : World) (cs : Array Value) (t : TypeId), Below w.heap.size w wx → w.heap.size ≤ g → wx.heap[g]? = some (.cells cs t (0, 0)) →
 ∃ cs' : Array Value, Below w.heap.size w (wx.setCells g n vs) ∧ (wx.setCells g n vs).heap[g]? = some (.cells cs' t (0, 0)) ∧ cs'.size = cs.size ∧ ∀ m : Nat, m < cs.size → cs'[m]? = if n ≤ m ∧ m - n < vs.length then vs[m - n]? else cs[m]? := by
 induction vs with
 | nil => exact fun n wx cs t hb _ h => ⟨cs, hb, h, rfl, fun m _ => by rw [if_neg (by simp)]⟩
 | cons v vs ih =>
  intro n wx cs t hb hg h
  obtain ⟨cs', b1, b2, b3, b4⟩ := ih (n + 1) (wx.setCell ⟨g, n, none⟩ v) (cs.setIfInBounds n v) t (below_set hb hg) hg (blk_set h n v)
  rw [Array.size_setIfInBounds] at b3
  refine ⟨cs', b1, b2, b3, fun m hm => ?_⟩
  rw [b4 m (by rw [Array.size_setIfInBounds]; exact hm), Array.getElem?_setIfInBounds]
  by_cases e : n = m
  ·subst e; rw [if_neg (fun x => Nat.not_succ_le_self _ x.1), if_pos rfl, if_pos hm, if_pos ⟨Nat.le_refl _, by simp⟩]; simp
  ·by_cases e2 : n ≤ m
   ·have : m - n = (m - (n + 1)) + 1 := by omega
    by_cases e3 : m - (n + 1) < vs.length
    ·rw [if_pos ⟨by omega, e3⟩, if_pos ⟨e2, by simp only [List.length_cons]; omega⟩, this]; rfl
    ·rw [if_neg (fun x => e3 x.2), if_neg e, if_neg (fun x => e3 (by have := x.2; simp only [List.length_cons] at this; omega))]
   ·rw [if_neg (fun x => e2 (by omega)), if_neg e, if_neg (fun x => e2 x.1)]
theorem q1o {w wx : World} {g t : Nat} {cs : Array Value} (vs : List Value) (hb : Below w.heap.size w wx) (hg : w.heap.size ≤ g) (h : wx.heap[g]? = some (.cells cs t (0, 0))) (hv : vs.length = cs.size) :
 Below w.heap.size w (wx.setCells g 0 vs) ∧ (wx.setCells g 0 vs).heap[g]? = some (.cells ⟨vs⟩ t (0, 0)) := by
 obtain ⟨cs', b1, b2, b3, b4⟩ := ed_lay w g vs 0 wx cs t hb hg h
 refine ⟨b1, ?_⟩
 rw [b2]
 congr 2
 apply Array.ext_getElem?
 intro m
 by_cases hm : m < cs.size
 ·rw [b4 m hm, if_pos ⟨Nat.zero_le _, by omega⟩]; simp
 ·rw [Array.getElem?_eq_none (by omega), Array.getElem?_eq_none (by simp; omega)]
def ptL : Nat → List S43 → Bool → List S50 → Int → Option Int
 | 0, _, _, _, _ => none
 | k + 1, l0, q, l1, i => if i < (l1.length : Int) then (if 0 ≤ i then (span_ranger_point.f k l0 q (q11 l1 i).f0 (q11 l1 i).f1).bind fun r => if r ≠ 0 then some r else ptL k l0 q l1 (wrap64 (i + 1)) else none) else some 0
def ptE (k : Nat) (l0 : List S43) (q : Bool) (l1 : List S50) : Option Int := (dom_Check.f k l0 q).bind fun r => if r ≠ 0 then some r else ptL k l0 q l1 0
set_option maxHeartbeats 8000000 in
set_option maxRecDepth 100000 in
theorem span_points.core (k : Nat) (A0 : Option Addr) (c0 : Nat) (l0 : List S43) (q : Bool) (A1 : Option Addr) (c1 : Nat) (l1 : List S50) (r : Int) (w : World) (hr0 : Kd.C k43 w A0 l0.length l0) (hc0 : l0.length ≤ c0) (hr1 : Kd.C k50 w A1 l1.length l1) (hc1 : l1.length ≤ c1) (h : ptE k l0 q l1 = some r) :
 Calls Tryd.prog 87 #[.agg #[.slice A0 l0.length c0, .bool q], .slice A1 l1.length c1] w fun e w' => e = .returned (.tuple #[.agg #[.slice A0 l0.length c0, .bool q], .int .i64 r]) ∧ Below w.heap.size w w' := by
 have hu24 := Tryd.underlying24
 have hu50 := Tryd.underlying50
 have hu124 := Tryd.underlying124
 have hu134 := Tryd.underlying134
 have HC := aS hr0
 have HL := aS hc0
 have HC1 := aS hr1
 clear hr0 hc0 hr1 hc1
 obtain ⟨r0, hr, h⟩ := Option.bind_eq_some_iff.1 h
 have HE := aS hr
 have H := aS h
 clear hr h
 go_enter Tryd.func87, Tryd.ntmps87
 go_upto_region 1 with (first | ((with_reducible refine q07 (N := 2) rfl ?_); refine q1u rfl (N := 2) rfl (cs := #[.slice A0 l0.length c0, .bool q]) (t := 24) zh ?_; intro gd wd DK GD DS) | ((with_reducible refine q07 (N := 4) rfl ?_); refine q1u rfl (N := 4) rfl (cs := #[.slice none 0 0, .bool false]) (t := 124) zh ?_; intro gr wr_ RK GS RS))
 have n_DK := aS (q01 DK.out RS.out)
 have HB := aS (q02 DS.out RS.out)
 have GR := aS (show w.heap.size ≤ gr from Nat.le_trans (Below.size DS.out) GS.out)
 clear DK DS GD RS GS
 have DK := n_DK
 clear n_DK
 obtain ⟨hd0, hd1, -, -⟩ := bk2 DK.out
 obtain ⟨hr0, hr1, hrf0, hrf1⟩ := bk2 RK.out
 go_upto_region 2 with (first | ((with_reducible refine q07 (N := 6) rfl ?_); refine q1u rfl (N := 6) rfl (cs := #[.slice none 0 0, .bool false]) (t := 124) zh ?_; intro ga wa AK GA AS; obtain ⟨hv0, hv1, -, -⟩ := bk2 AK.out) | (refine wpList_store_mid (by rfl) 124 (.tmp 6) (.tmp 12) (by rfl) ga 0 #[.slice A0 l0.length c0, .bool q] ?hx ?hy ?hT ?hI ?h1 ?_; go_must ((case hx => rfl); (case hy => rfl); (case hT => exact there_len AK.out rfl); (case hI => kernel_rfl); (case h1 => first | rfl | (simp [Value.oneCell']; done) | (simp; done) | decide)); have hb := (q1o [.slice A0 l0.length c0, .bool q] AS.out GA.out AK.out rfl).1; have n_AK := aS (q1o [.slice A0 l0.length c0, .bool q] AS.out GA.out AK.out rfl).2; clear AK AS GA; generalize (wa.setCells ga 0 [.slice A0 l0.length c0, .bool q]) = wb at hb n_AK ⊢; clear hv0 hv1; have n_DK := aS (q01 DK.out hb); have n_RK := aS (q01 RK.out hb); have n_HB := aS (q02 HB.out hb); clear hd0 hd1 hr0 hr1 hrf0 hrf1; clear DK RK HB; have DK := n_DK; have RK := n_RK; have HB := n_HB; clear n_DK n_RK n_HB; have AK := n_AK; clear n_AK hb))
 obtain ⟨hd0, hd1, -, -⟩ := bk2 DK.out
 obtain ⟨hr0, hr1, hrf0, hrf1⟩ := bk2 RK.out
 obtain ⟨ha0, ha1, -, -⟩ := bk2 AK.out
 go_upto_region 3 with (go_at_call 52; (with_reducible refine (dom_Check.calls k A0 c0 l0 q r0 _ (Kd.C_below HC.out HB.out) HL.out HE.out).mono ?_); rintro e w7 ⟨rfl, hb⟩; have n_RK := aS (q01 RK.out hb); have n_AK := aS (q01 AK.out hb); have n_HB := aS (q02 HB.out hb); clear hd0 hd1 hr0 hr1 hrf0 hrf1 ha0 ha1; clear RK AK HB; have RK := n_RK; have AK := n_AK; have HB := n_HB; clear n_RK n_AK n_HB; clear DK hb; obtain ⟨hr0, hr1, hrf0, hrf1⟩ := bk2 RK.out; obtain ⟨ha0, ha1, -, -⟩ := bk2 AK.out)
 have HH := H.out
 clear H HE
 by_cases z : r0 ≠ 0
 ·obtain rfl := Option.some.inj ((if_pos z).symm.trans HH)
  have z1 : (r0 != 0) = true := bne_iff_ne.mpr z
  have z2 : (r0 == 0) = false := beq_eq_false_iff_ne.mpr z
  clear z HH
  go_wp2
  refine bodyPost_ret (results_ct rfl _ _ gr 124 #[.slice A0 l0.length c0, .bool q] (0, 0) _ rfl (by (with_reducible repeat (first | refine kN ?_ _ | refine kD ?_ | refine kA ?_ _)); refine q0h (cs := #[.slice A0 l0.length c0, .bool false]) ?_ 1 _ rfl; (with_reducible repeat (first | refine kN ?_ _ | refine kD ?_ | refine kA ?_ _)); refine q0h (cs := #[.slice none 0 0, .bool false]) ?_ 0 _ rfl; (with_reducible repeat (first | refine kN ?_ _ | refine kD ?_ | refine kA ?_ _)); exact RK.out) Tryd.underlying124 rfl (by kernel_rfl)) rfl ?_
  exact ⟨rfl, by repeat (first | (with_reducible first | exact HB.out | apply bA | apply bN | apply bD | refine bS ?_ GR.out) | exact HB.out)⟩
 ·have H2 := aS ((if_neg z).symm.trans HH)
  obtain rfl : r0 = 0 := Classical.not_not.1 z
  clear z HH
  go_wp2
  go_loopg [21] k (fun kq v21 w' => ∃ (i : Int), v21 = .int .i64 i ∧ Aside0 (ptL kq l0 q l1 i = some r) ∧ Aside0 (w'.heap[gr]? = some (.cells #[.slice none 0 0, .bool false] 124 (0, 0))) ∧ Aside0 (w'.heap[ga]? = some (.cells #[.slice A0 l0.length c0, .bool q] 124 (0, 0))) ∧ Aside0 (Below w.heap.size w w'))
  case atStart => exact ⟨0, rfl, H2, RK, AK, HB⟩
  case round =>
   clear H2 RK AK HB hr0 hr1 ha0 ha1
   obtain ⟨i, rfl, HA, RK, AK, HB⟩ := hrel
   cases gk with
   | zero => exact absurd HA.out (by simp [ptL])
   | succ k1 =>
    have H := HA.out
    clear HA
    rw [ptL] at H
    obtain ⟨hr0, hr1, hrf0, hrf1⟩ := bk2 RK.out
    obtain ⟨ha0, ha1, -, -⟩ := bk2 AK.out
    by_cases c10 : i < (l1.length : Int)
    ·rw [if_pos c10] at H
     refine iGq H ?_
     clear H
     intro c11 H
     obtain ⟨r5, hr5, H⟩ := Option.bind_eq_some_iff.1 H
     have HE := aS hr5
     clear hr5
     have H3 := aS H
     clear H
     obtain ⟨ad, e_, x0, x1⟩ := at_T50 HC1.out i c11 c10
     subst e_
     replace x0 := (HB.out.cell (World.block_lt_of_cell? _ _ x0)).trans x0
     replace x1 := (HB.out.cell (World.block_lt_of_cell? _ _ x1)).trans x1
     have c10b : decide (i < (l1.length : Int)) = true := decide_eq_true c10
     have p0 := eq_true c11
     have p1 := eq_true c10
     clear c10 c11
     have A0K := AK
     clear AK
     go_upto_region 8 with (first | ((with_reducible refine q07 (N := 9) rfl ?_); refine q1u rfl (N := 9) rfl (cs := #[.int .i64 0, .int .i64 0]) (t := 50) zh ?_; intro ga9 wa AK GA AS; obtain ⟨hv0, hv1, -, -⟩ := bk2 AK.out) | (refine wpList_store_mid (by rfl) 50 (.tmp 9) (.tmp 24) (by rfl) ga9 0 #[.int .i64 (q11 l1 i).f0, .int .i64 (q11 l1 i).f1] ?hx ?hy ?hT ?hI ?h1 ?_; go_must ((case hx => rfl); (case hy => rfl); (case hT => exact there_len AK.out rfl); (case hI => kernel_rfl); (case h1 => first | rfl | (simp [Value.oneCell']; done) | (simp; done) | decide)); have hb := (q1o [.int .i64 (q11 l1 i).f0, .int .i64 (q11 l1 i).f1] AS.out GA.out AK.out rfl).1; have n_AK := aS (q1o [.int .i64 (q11 l1 i).f0, .int .i64 (q11 l1 i).f1] AS.out GA.out AK.out rfl).2; clear AK AS GA; generalize (wa.setCells ga9 0 [.int .i64 (q11 l1 i).f0, .int .i64 (q11 l1 i).f1]) = wb at hb n_AK ⊢; clear hv0 hv1; have n_RK := aS (q01 RK.out hb); have n_A0K := aS (q01 A0K.out hb); have n_HB := aS (q02 HB.out hb); clear hr0 hr1 hrf0 hrf1 ha0 ha1; clear RK A0K HB; have RK := n_RK; have A0K := n_A0K; have HB := n_HB; clear n_RK n_A0K n_HB; have AK := n_AK; clear n_AK hb))
     have PK := AK
     clear AK x0 x1
     obtain ⟨hp0, hp1, -, -⟩ := bk2 PK.out
     obtain ⟨ha0, ha1, -, -⟩ := bk2 A0K.out
     obtain ⟨hr0, hr1, hrf0, hrf1⟩ := bk2 RK.out
     go_upto_region 9 with (go_at_call 125; (with_reducible refine (span_ranger_point.calls k1 A0 c0 l0 q (q11 l1 i).f0 (q11 l1 i).f1 r5 _ (Kd.C_below HC.out HB.out) HL.out HE.out).mono ?_); rintro e w8 ⟨rfl, hb⟩; have n_RK := aS (q01 RK.out hb); have n_A0K := aS (q01 A0K.out hb); have n_HB := aS (q02 HB.out hb); clear hr0 hr1 hrf0 hrf1 ha0 ha1 hp0 hp1; clear RK A0K HB; have RK := n_RK; have A0K := n_A0K; have HB := n_HB; clear n_RK n_A0K n_HB; clear PK hb; obtain ⟨hr0, hr1, hrf0, hrf1⟩ := bk2 RK.out; obtain ⟨ha0, ha1, -, -⟩ := bk2 A0K.out)
     have HH := H3.out
     clear H3 HE
     by_cases z : r5 ≠ 0
     ·obtain rfl := Option.some.inj ((if_pos z).symm.trans HH)
      have z1 : (r5 != 0) = true := bne_iff_ne.mpr z
      have z2 : (r5 == 0) = false := beq_eq_false_iff_ne.mpr z
      clear z HH
      go_wp2
      refine bodyPost_ret (results_ct rfl _ _ gr 124 #[.slice A0 l0.length c0, .bool q] (0, 0) _ rfl (by (with_reducible repeat (first | refine kN ?_ _ | refine kD ?_ | refine kA ?_ _)); refine q0h (cs := #[.slice A0 l0.length c0, .bool false]) ?_ 1 _ rfl; (with_reducible repeat (first | refine kN ?_ _ | refine kD ?_ | refine kA ?_ _)); refine q0h (cs := #[.slice none 0 0, .bool false]) ?_ 0 _ rfl; (with_reducible repeat (first | refine kN ?_ _ | refine kD ?_ | refine kA ?_ _)); exact RK.out) Tryd.underlying124 rfl (by kernel_rfl)) rfl ?_
      exact ⟨rfl, by repeat (first | (with_reducible first | exact HB.out | apply bA | apply bN | apply bD | refine bS ?_ GR.out) | exact HB.out)⟩
     ·have H2 := aS ((if_neg z).symm.trans HH)
      obtain rfl : r5 = 0 := Classical.not_not.1 z
      clear z HH
      go_wp2
      go_roundg k1
      case rel => exact ⟨wrap64 (i + 1), rfl, H2, RK, A0K, HB⟩
      all_goals (first | omega | trivial)
    ·rw [if_neg c10] at H
     have c10b : decide (i < (l1.length : Int)) = false := decide_eq_false c10
     obtain rfl := Option.some.inj H
     clear c10 H
     go_wp2
     refine bodyPost_ret (results_ct rfl _ _ gr 124 #[.slice A0 l0.length c0, .bool q] (0, 0) _ rfl (by (with_reducible repeat (first | refine kN ?_ _ | refine kD ?_ | refine kA ?_ _)); refine q0h (cs := #[.slice A0 l0.length c0, .bool false]) ?_ 1 _ rfl; (with_reducible repeat (first | refine kN ?_ _ | refine kD ?_ | refine kA ?_ _)); refine q0h (cs := #[.slice none 0 0, .bool false]) ?_ 0 _ rfl; (with_reducible repeat (first | refine kN ?_ _ | refine kD ?_ | refine kA ?_ _)); exact RK.out) Tryd.underlying124 rfl (by kernel_rfl)) rfl ?_
     exact ⟨rfl, by repeat (first | (with_reducible first | exact HB.out | apply bA | apply bN | apply bD | refine bS ?_ GR.out) | exact HB.out)⟩
theorem ptL.mono (l0 : List S43) (q : Bool) (l1 : List S50) : ∀ (k : Nat) (i : Int), LeO (ptL k l0 q l1 i) (ptL (k + 1) l0 q l1 i)
 | 0, _ => LeO.none _
 | k + 1, i => by
  unfold ptL
  repeat' first | with_reducible first | apply ptL.mono l0 q l1 k | apply span_ranger_point.mono | exact LeO.refl _ | exact LeO.none _ | refine LeO.ite ?_ ?_ | refine LeO.bind ?_ (fun _ => ?_)
theorem ptE.mono (l0 : List S43) (q : Bool) (l1 : List S50) (k : Nat) : LeO (ptE k l0 q l1) (ptE (k + 1) l0 q l1) := by
 unfold ptE
 repeat' first | with_reducible first | apply ptL.mono | apply dom_Check.mono | exact LeO.refl _ | exact LeO.none _ | refine LeO.ite ?_ ?_ | refine LeO.bind ?_ (fun _ => ?_)
def cmp_isNaN_int.f (a0 : Int) : Option (Bool) := some (a0 != a0)
set_option maxHeartbeats 8000000 in
set_option maxRecDepth 100000 in
theorem cmp_isNaN_int.calls (a0 : Int) (r : Bool) (w : World) (h : cmp_isNaN_int.f a0 = some r) :
 Calls Tryd.prog 146 #[.int .i64 a0] w fun e w' => e = .returned (.bool r) ∧ Drawn0 w w' := by
 have H : (some (a0 != a0)) = some r := h
 clear h
 obtain rfl := Option.some.inj H
 go_enter Tryd.func146, Tryd.ntmps146
 go_wp2
 go_ret
 exact ⟨by first | rfl | (simp; done) | (simp [*]; done), by repeat (first | exact Drawn0.refl _ | apply Drawn0.step)⟩
def cmp_Compare_int.f (a0 : Int) (a1 : Int) : Option (Int) := (cmp_isNaN_int.f a0).bind fun t272 => ((cmp_isNaN_int.f a1).bind fun t273 => (if t272 = true then (if t273 = true then (some 0) else (some (-1))) else (if t273 = true then (some 1) else (if a0 < a1 then (some (-1)) else (if a0 > a1 then (some 1) else (some 0))))))
set_option maxHeartbeats 8000000 in
set_option maxRecDepth 100000 in
theorem cmp_Compare_int.calls (a0 : Int) (a1 : Int) (r : Int) (w : World) (h : cmp_Compare_int.f a0 a1 = some r) :
 Calls Tryd.prog 126 #[.int .i64 a0, .int .i64 a1] w fun e w' => e = .returned (.int .i64 r) ∧ Drawn0 w w' := by
 have H := h; clear h; unfold cmp_Compare_int.f at H
 replace H := iB H
 obtain ⟨t272, A3, H⟩ := H
 replace H := iB H
 obtain ⟨t273, A4, H⟩ := H
 refine iV H ?p5 ?n5 <;> clear H
 case' p5 => intro c5 H; subst c5; refine iV H ?p6 ?n6 <;> clear H
 case' p6 => intro c6 H; subst c6
 case' n6 => intro c6 H; subst c6
 case' n5 => intro c5 H; subst c5; refine iV H ?p7 ?n7 <;> clear H
 case' p7 => intro c7 H; subst c7
 case' n7 => intro c7 H; subst c7; refine iT H ?p8 ?n8 <;> clear H
 case' p8 => intro c8b0 H
 case' n8 => intro c8b0 H; refine iT H ?p9 ?n9 <;> clear H
 case' p9 => intro c9b0 H
 case' n9 => intro c9b0 H
 case p6 =>
  obtain rfl := Option.some.inj H
  go_enter Tryd.func126, Tryd.ntmps126
  go_wp2_with (first | ((with_reducible refine q08 (f := 146) rfl ?_); refine q0n (some 8) rfl rfl Tryd.func146 (by kernel_rfl) rfl #[.int .i64 a0] rfl zc ?_; (with_reducible refine (cmp_isNaN_int.calls a0 true _ A3.out).mono ?_); rintro e w' ⟨rfl, ⟨nd, rfl⟩⟩; refine ⟨_, rfl, ?_⟩) | ((with_reducible refine q08 (f := 146) rfl ?_); refine q0n (some 10) rfl rfl Tryd.func146 (by kernel_rfl) rfl #[.int .i64 a1] rfl zc ?_; (with_reducible refine (cmp_isNaN_int.calls a1 true _ A4.out).mono ?_); rintro e w' ⟨rfl, ⟨nd, rfl⟩⟩; refine ⟨_, rfl, ?_⟩))
  go_ret
  exact ⟨by first | rfl | (simp; done) | (simp [*]; done), by repeat (first | exact Drawn0.refl _ | apply Drawn0.step)⟩
 case n6 =>
  obtain rfl := Option.some.inj H
  go_enter Tryd.func126, Tryd.ntmps126
  go_wp2_with (first | ((with_reducible refine q08 (f := 146) rfl ?_); refine q0n (some 8) rfl rfl Tryd.func146 (by kernel_rfl) rfl #[.int .i64 a0] rfl zc ?_; (with_reducible refine (cmp_isNaN_int.calls a0 true _ A3.out).mono ?_); rintro e w' ⟨rfl, ⟨nd, rfl⟩⟩; refine ⟨_, rfl, ?_⟩) | ((with_reducible refine q08 (f := 146) rfl ?_); refine q0n (some 10) rfl rfl Tryd.func146 (by kernel_rfl) rfl #[.int .i64 a1] rfl zc ?_; (with_reducible refine (cmp_isNaN_int.calls a1 false _ A4.out).mono ?_); rintro e w' ⟨rfl, ⟨nd, rfl⟩⟩; refine ⟨_, rfl, ?_⟩))
  go_ret
  exact ⟨by first | rfl | (simp; done) | (simp [*]; done), by repeat (first | exact Drawn0.refl _ | apply Drawn0.step)⟩
 case p7 =>
  obtain rfl := Option.some.inj H
  go_enter Tryd.func126, Tryd.ntmps126
  go_wp2_with (first | ((with_reducible refine q08 (f := 146) rfl ?_); refine q0n (some 8) rfl rfl Tryd.func146 (by kernel_rfl) rfl #[.int .i64 a0] rfl zc ?_; (with_reducible refine (cmp_isNaN_int.calls a0 false _ A3.out).mono ?_); rintro e w' ⟨rfl, ⟨nd, rfl⟩⟩; refine ⟨_, rfl, ?_⟩) | ((with_reducible refine q08 (f := 146) rfl ?_); refine q0n (some 10) rfl rfl Tryd.func146 (by kernel_rfl) rfl #[.int .i64 a1] rfl zc ?_; (with_reducible refine (cmp_isNaN_int.calls a1 true _ A4.out).mono ?_); rintro e w' ⟨rfl, ⟨nd, rfl⟩⟩; refine ⟨_, rfl, ?_⟩))
  go_ret
  exact ⟨by first | rfl | (simp; done) | (simp [*]; done), by repeat (first | exact Drawn0.refl _ | apply Drawn0.step)⟩
 case p8|p9|n9 =>
  obtain rfl := Option.some.inj H
  go_enter Tryd.func126, Tryd.ntmps126
  go_wp2_with (first | ((with_reducible refine q08 (f := 146) rfl ?_); refine q0n (some 8) rfl rfl Tryd.func146 (by kernel_rfl) rfl #[.int .i64 a0] rfl zc ?_; (with_reducible refine (cmp_isNaN_int.calls a0 false _ A3.out).mono ?_); rintro e w' ⟨rfl, ⟨nd, rfl⟩⟩; refine ⟨_, rfl, ?_⟩) | ((with_reducible refine q08 (f := 146) rfl ?_); refine q0n (some 10) rfl rfl Tryd.func146 (by kernel_rfl) rfl #[.int .i64 a1] rfl zc ?_; (with_reducible refine (cmp_isNaN_int.calls a1 false _ A4.out).mono ?_); rintro e w' ⟨rfl, ⟨nd, rfl⟩⟩; refine ⟨_, rfl, ?_⟩))
  go_ret
  exact ⟨by first | rfl | (simp; done) | (simp [*]; done), by repeat (first | exact Drawn0.refl _ | apply Drawn0.step)⟩
def slices_Compare_int_int.l0 : Nat → List Int → List Int → List Int → Int → Int → Option (Int)
 | 0, _, _, _, _, _ => none
 | k + 1, x0, x1, x9, x10, x11 => if x11 < x10 then (if 0 ≤ x11 then (if x11 < (x9.length : Int) then (if x11 ≥ (x1.length : Int) then (some 1) else (if x11 < (x1.length : Int) then ((cmp_Compare_int.f (rd x9 x11) (rd x1 x11)).bind fun t276 => (if t276 = 0 then (slices_Compare_int_int.l0 k x0 x1 x9 x10 (wrap64 (x11 + 1))) else (some t276))) else (none))) else (none)) else (none)) else (if (x0.length : Int) < (x1.length : Int) then (some (-1)) else (some 0))
def slices_Compare_int_int.f (k : Nat) (l0 : List Int) (l1 : List Int) : Option (Int) := slices_Compare_int_int.l0 k l0 l1 l0 (l0.length : Int) 0
theorem slices_Compare_int_int.mono_l : ∀ k, (∀ y0 y1 y2 y3 y4, LeO (slices_Compare_int_int.l0 k y0 y1 y2 y3 y4) (slices_Compare_int_int.l0 (k + 1) y0 y1 y2 y3 y4))
 | 0 => fun _ _ _ _ _ r h => by simp [slices_Compare_int_int.l0] at h
 | k + 1 => by
  have ih0 := slices_Compare_int_int.mono_l k
  ·intro y0 y1 y2 y3 y4
   unfold slices_Compare_int_int.l0
   repeat' first | with_reducible first | apply ih0 | exact LeO.refl _ | exact LeO.none _ | refine LeO.ite ?_ ?_ | refine LeO.bind ?_ (fun _ => ?_) | (first | apply ih0 | exact LeO.none _ | refine LeO.ite ?_ ?_ | refine LeO.bind ?_ (fun _ => ?_))
theorem slices_Compare_int_int.mono : ∀ a0 a1 k, LeO (slices_Compare_int_int.f k a0 a1) (slices_Compare_int_int.f (k + 1) a0 a1) := by
 intro a0 a1 k
 have ih0 := slices_Compare_int_int.mono_l k
 unfold slices_Compare_int_int.f
 repeat' first | with_reducible first | apply ih0 | exact LeO.refl _ | exact LeO.none _ | refine LeO.ite ?_ ?_ | refine LeO.bind ?_ (fun _ => ?_) | (first | apply ih0 | exact LeO.none _ | refine LeO.ite ?_ ?_ | refine LeO.bind ?_ (fun _ => ?_))
set_option maxHeartbeats 8000000 in
set_option maxRecDepth 100000 in
theorem slices_Compare_int_int.calls (k : Nat) (A0 : Option Addr) (c0 : Nat) (l0 : List Int) (A1 : Option Addr) (c1 : Nat) (l1 : List Int) (r : Int) (w : World) (hr0 : Kd.C (Kd.int .i64) w A0 l0.length l0) (hc0 : l0.length ≤ c0) (hr1 : Kd.C (Kd.int .i64) w A1 l1.length l1) (hc1 : l1.length ≤ c1) (h : slices_Compare_int_int.f k l0 l1 = some r) :
 Calls Tryd.prog 127 #[.slice A0 l0.length c0, .slice A1 l1.length c1] w fun e w' => e = .returned (.int .i64 r) ∧ Drawn0 w w' := by
 have HR0 := aS hr0
 have HC0 := aS hc0
 clear hr0 hc0
 have HR1 := aS hr1
 have HC1 := aS hc1
 clear hr1 hc1
 have H := h; clear h; unfold slices_Compare_int_int.f at H
 have H' := aS H
 clear H
 go_enter Tryd.func127, Tryd.ntmps127
 go_wp2
 go_loopg [11] k (fun kq v11 w' => ∃ (x11_1 : Int), v11 = .int .i64 x11_1 ∧ Aside0 (slices_Compare_int_int.l0 kq l0 l1 l0 (l0.length : Int) x11_1 = some r) ∧ Aside0 (kq ≤ k) ∧ Drawn0 w w')
 case atStart => exact ⟨(0), zi, H', ⟨Nat.le_refl _⟩, by repeat (first | exact Drawn0.refl _ | apply Drawn0.step)⟩
 case round =>
  clear H'
  obtain ⟨x11_1, rfl, HA, HK1, ⟨m1, rfl⟩⟩ := hrel
  cases gk with
  | zero => exact absurd HA.out (by simp [slices_Compare_int_int.l0])
  | succ k1 =>
   have H := HA.out
   clear HA
   simp only [slices_Compare_int_int.l0] at H
   refine iT H ?p3 ?n3 <;> clear H
   case' p3 => intro c3b0 H; refine iLp H ?_; clear H; intro c4b0 H; refine iTp H ?_; clear H; intro c5b0 H; refine iL H ?p6 ?n6 <;> clear H
   case' p6 => intro c6b0 H
   case' n6 =>
    intro c6b0 H
    refine iTp H ?_; clear H; intro c7b0 H
    replace H := iB H
    obtain ⟨t276, A8, H⟩ := H
    obtain ⟨ad274, e274, hx274_0, p274, q274⟩ := atIA HR0.out x11_1 zb zb
    cases e274
    obtain ⟨ad275, e275, hx275_0, p275, q275⟩ := atIA HR1.out x11_1 zb zb
    cases e275
    refine iE H ?p9 ?n9 <;> clear H
   case' p9 => intro c9b0 c9b1 H
   case' n9 => intro c9 c9b0 c9b1 H
   case' n3 => intro c3b0 H; refine iG H ?p10 ?n10 <;> clear H
   case' p10 => intro c10 H; have c10b0 : decide ((l0.length : Int) < (l1.length : Int)) = true := decide_eq_true c10; have c10b1 : decide (l0.length < l1.length) = true := decide_eq_true (Int.ofNat_lt.mp c10); clear c10
   case' n10 => intro c10 H; have c10b0 : decide ((l0.length : Int) < (l1.length : Int)) = false := decide_eq_false c10; have c10b1 : decide (l0.length < l1.length) = false := decide_eq_false (fun h => c10 (Int.ofNat_lt.mpr h)); clear c10
   case p6 =>
    obtain rfl := Option.some.inj H
    obtain ⟨ad274, e274, hx274_0, p274, q274⟩ := atIA HR0.out x11_1 zb zb
    cases e274
    go_wp2
    go_ret
    exact ⟨by first | rfl | (simp; done) | (simp [*]; done), by repeat (first | exact Drawn0.refl _ | apply Drawn0.step)⟩
   case p9 =>
    have H' := aS H
    clear H
    go_wp2_with (first | ((with_reducible refine q08 (f := 126) rfl ?_); refine q0n (some 26) rfl rfl Tryd.func126 (by kernel_rfl) rfl #[.int .i64 (rd l0 x11_1), .int .i64 (rd l1 x11_1)] rfl zc ?_; (with_reducible refine (cmp_Compare_int.calls (rd l0 x11_1) (rd l1 x11_1) t276 _ A8.out).mono ?_); rintro e w' ⟨rfl, ⟨nd, rfl⟩⟩; refine ⟨_, rfl, ?_⟩))
    go_roundg k1
    case measure => have := HK1.out; omega
    case rel => exact ⟨(wrap64 (x11_1 + 1)), zi, H', ⟨by have := HK1.out; omega⟩, by repeat (first | exact Drawn0.refl _ | apply Drawn0.step)⟩
   case n9 =>
    obtain rfl := Option.some.inj H
    go_wp2_with (first | ((with_reducible refine q08 (f := 126) rfl ?_); refine q0n (some 26) rfl rfl Tryd.func126 (by kernel_rfl) rfl #[.int .i64 (rd l0 x11_1), .int .i64 (rd l1 x11_1)] rfl zc ?_; (with_reducible refine (cmp_Compare_int.calls (rd l0 x11_1) (rd l1 x11_1) t276 _ A8.out).mono ?_); rintro e w' ⟨rfl, ⟨nd, rfl⟩⟩; refine ⟨_, rfl, ?_⟩))
    go_ret
    exact ⟨by first | rfl | (simp; done) | (simp [*]; done), by repeat (first | exact Drawn0.refl _ | apply Drawn0.step)⟩
   case p10|n10 =>
    obtain rfl := Option.some.inj H
    go_wp2
    go_ret
    exact ⟨by first | rfl | (simp; done) | (simp [*]; done), by repeat (first | exact Drawn0.refl _ | apply Drawn0.step)⟩
def span_ranger_order.f (k : Nat) (l0_0 : List (S43)) (a0_1 : Bool) (a1_0 : Int) (a1_1 : Int) (a2_0 : Int) (a2_1 : Int) : Option (Int) := if a1_0 = a2_0 then ((cmp_Compare_int.f a1_1 a2_1).bind fun t280 => (some t280)) else ((span_ranger_path.f k l0_0 a0_1 a1_0 a1_1).bind fun t281 => ((span_ranger_path.f k l0_0 a0_1 a2_0 a2_1).bind fun t284 => ((slices_Compare_int_int.f k t281 t284).bind fun t287 => (some t287))))
theorem span_ranger_order.mono : ∀ a0 a1 a2 a3 a4 a5 k, LeO (span_ranger_order.f k a0 a1 a2 a3 a4 a5) (span_ranger_order.f (k + 1) a0 a1 a2 a3 a4 a5) := by
 intro a0 a1 a2 a3 a4 a5 k
 unfold span_ranger_order.f
 repeat' first | with_reducible first | apply slices_Compare_int_int.mono | apply span_ranger_path.mono | exact LeO.refl _ | exact LeO.none _ | refine LeO.ite ?_ ?_ | refine LeO.bind ?_ (fun _ => ?_) | (first | apply slices_Compare_int_int.mono | apply span_ranger_path.mono | exact LeO.none _ | refine LeO.ite ?_ ?_ | refine LeO.bind ?_ (fun _ => ?_))
def span_ranger_order.T3 : Bool × List (List Nat × List Nat) := (true, [([], []), ([], []), ([0, 1], [0, 1]), ([], []), ([], []), ([3, 4, 2], [3, 4]), ([2, 5, 5], [2, 5]), ([6, 6, 0, 1, 2, 3, 4, 5, 6], [6])])
def span_ranger_order.B3 : List Nat := [0, 0, 3, 0, 0, 31, 63, 127]
theorem span_ranger_order.tab3 : rtab .any (opsOf Tryd.f88 3) = span_ranger_order.T3 := by kernel_rfl
theorem span_ranger_order.bits3 : waitsOk span_ranger_order.T3.2 span_ranger_order.B3 = true := by kernel_rfl
set_option maxHeartbeats 8000000 in
set_option maxRecDepth 100000 in
theorem span_ranger_order.calls (k : Nat) (A0_0 : Option Addr) (c0_0 : Nat) (l0_0 : List (S43)) (a0_1 : Bool) (a1_0 : Int) (a1_1 : Int) (a2_0 : Int) (a2_1 : Int) (r : Int) (w : World) (hr0_0 : Kd.C k43 w A0_0 l0_0.length l0_0) (hc0_0 : l0_0.length ≤ c0_0) (h : span_ranger_order.f k l0_0 a0_1 a1_0 a1_1 a2_0 a2_1 = some r) :
 Calls Tryd.prog 88 #[.agg #[.slice A0_0 l0_0.length c0_0, .bool a0_1], .agg #[.int .i64 a1_0, .int .i64 a1_1], .agg #[.int .i64 a2_0, .int .i64 a2_1]] w fun e w' => e = .returned (.int .i64 r) ∧ Below w.heap.size w w' := by
 have hu124 := Tryd.underlying124
 have hu50 := Tryd.underlying50
 have HR0_0 := aS hr0_0
 have HC0_0 := aS hc0_0
 clear hr0_0 hc0_0
 have HB := aS (Below.refl w.heap.size w)
 have H := h; clear h; unfold span_ranger_order.f at H
 refine iE H ?p4 ?n4 <;> clear H
 case' p4 => intro c4b0 c4b1 H
 case' n4 => intro c4 c4b0 c4b1 H
 case p4 =>
  replace H := iB H
  obtain ⟨t280, A5, H⟩ := H
  obtain rfl := Option.some.inj H
  go_enter Tryd.func88, Tryd.ntmps88
  go_wp2_with (first | ((with_reducible refine q07 (N := 3) rfl ?_); refine box0 rfl (N := 3) rfl (cs := #[.slice A0_0 l0_0.length c0_0, .bool a0_1]) (t := 124) zh (z7 HB.out) ?_; clear HB; intro gb277 w6 BK277 GW277 HB; have GE277 := GW277) | ((with_reducible refine q07 (N := 4) rfl ?_); refine q0j ?hg (N := 4) ?hd (cs := #[.int .i64 a1_0, .int .i64 a1_1]) (t := 50) ?hr ?_; (case hd => rfl); (case hg => rfl); (case hr => first | (go_simp; done) | (go_simp; rfl)); intro gb278 hg w7 hbox hb; have n0_ := aS (q01 (g := gb277) (o := .cells #[.slice A0_0 l0_0.length c0_0, .bool a0_1] 124 (0, 0)) (za BK277.out) hb); have n1_ := aS (q02 (z6 HB.out GE277.out) hb); have n2_ := aS (hbox); have n3_ := aS ((by rw [hg]; exact (q06 (z6 HB.out GE277.out)) : w.heap.size ≤ gb278)); have n4_ := aS ((by rw [hg]; exact (q06 (z6 HB.out GE277.out)) : w.heap.size ≤ gb278)); have n5_ := aS ((by rw [hg]; exact Nat.ne_of_lt (q0i (g := gb277) (o := .cells #[.slice A0_0 l0_0.length c0_0, .bool a0_1] 124 (0, 0)) (za BK277.out)) : gb277 ≠ gb278)); have n6_ := aS ((by rw [hg]; exact Nat.ne_of_gt (q0i (g := gb277) (o := .cells #[.slice A0_0 l0_0.length c0_0, .bool a0_1] 124 (0, 0)) (za BK277.out)) : gb278 ≠ gb277)); clear BK277; clear HB; have BK277 := n0_; have HB := n1_; have BK278 := n2_; have GW278 := n3_; have GE278 := n4_; have NB277_278 := n5_; have NB278_277 := n6_; clear n0_ n1_ n2_ n3_ n4_ n5_ n6_; clear hb hbox hg) | ((with_reducible refine q07 (N := 5) rfl ?_); refine q0j ?hg (N := 5) ?hd (cs := #[.int .i64 a2_0, .int .i64 a2_1]) (t := 50) ?hr ?_; (case hd => rfl); (case hg => rfl); (case hr => first | (go_simp; done) | (go_simp; rfl)); intro gb279 hg w8 hbox hb; have n0_ := aS (q01 (g := gb277) (o := .cells #[.slice A0_0 l0_0.length c0_0, .bool a0_1] 124 (0, 0)) (za BK277.out) hb); have n1_ := aS (q01 (g := gb278) (o := .cells #[.int .i64 a1_0, .int .i64 a1_1] 50 (0, 0)) (za BK278.out) hb); have n2_ := aS (q02 (by repeat (first | (with_reducible first | exact HB.out | apply bA | apply bN | apply bD | refine bS ?_ GE277.out | refine bS ?_ GE278.out) | exact HB.out)) hb); have n3_ := aS (hbox); have n4_ := aS ((by rw [hg]; exact (q06 (by repeat (first | (with_reducible first | exact HB.out | apply bA | apply bN | apply bD | refine bS ?_ GE277.out | refine bS ?_ GE278.out) | exact HB.out))) : w.heap.size ≤ gb279)); have n5_ := aS ((by rw [hg]; exact (q06 (by repeat (first | (with_reducible first | exact HB.out | apply bA | apply bN | apply bD | refine bS ?_ GE277.out | refine bS ?_ GE278.out) | exact HB.out))) : w.heap.size ≤ gb279)); have n6_ := aS ((by rw [hg]; exact Nat.ne_of_lt (q0i (g := gb277) (o := .cells #[.slice A0_0 l0_0.length c0_0, .bool a0_1] 124 (0, 0)) (za BK277.out)) : gb277 ≠ gb279)); have n7_ := aS ((by rw [hg]; exact Nat.ne_of_gt (q0i (g := gb277) (o := .cells #[.slice A0_0 l0_0.length c0_0, .bool a0_1] 124 (0, 0)) (za BK277.out)) : gb279 ≠ gb277)); have n8_ := aS ((by rw [hg]; exact Nat.ne_of_lt (q0i (g := gb278) (o := .cells #[.int .i64 a1_0, .int .i64 a1_1] 50 (0, 0)) (za BK278.out)) : gb278 ≠ gb279)); have n9_ := aS ((by rw [hg]; exact Nat.ne_of_gt (q0i (g := gb278) (o := .cells #[.int .i64 a1_0, .int .i64 a1_1] 50 (0, 0)) (za BK278.out)) : gb279 ≠ gb278)); clear BK277; clear BK278; clear HB; have BK277 := n0_; have BK278 := n1_; have HB := n2_; have BK279 := n3_; have GW279 := n4_; have GE279 := n5_; have NB277_279 := n6_; have NB279_277 := n7_; have NB278_279 := n8_; have NB279_278 := n9_; clear n0_ n1_ n2_ n3_ n4_ n5_ n6_ n7_ n8_ n9_; clear hb hbox hg; have hnb9 := NB278_277.out; have hnc9 := NB277_278.out; have hnb10 := NB278_279.out; have hnc10 := NB279_278.out; obtain ⟨hczL_0, hczL_1, hfzL_0, hfzL_1⟩ := bk2 BK278.out; have hnb12 := NB279_277.out; have hnc12 := NB277_279.out; obtain ⟨hczL_0, hczL_1, hfzL_0, hfzL_1⟩ := bk2 BK279.out) | ((with_reducible refine q08 (f := 126) rfl ?_); refine q0n (some 16) rfl rfl Tryd.func126 (by kernel_rfl) rfl #[.int .i64 a1_1, .int .i64 a2_1] rfl zc ?_; (with_reducible refine (cmp_Compare_int.calls a1_1 a2_1 t280 _ A5.out).mono ?_); rintro e w' ⟨rfl, ⟨nd, rfl⟩⟩; refine ⟨_, rfl, ?_⟩))
  go_ret
  exact ⟨by first | rfl | (simp [q05, q04] <;> rfl) | (simp [*, q05, q04] <;> rfl), by repeat (first | (with_reducible first | exact HB.out | apply bA | apply bN | apply bD | refine bS ?_ GE277.out | refine bS ?_ GE278.out | refine bS ?_ GE279.out) | exact HB.out)⟩
 case n4 =>
  replace H := iB H
  obtain ⟨t281, A14, H⟩ := H
  replace H := iB H
  obtain ⟨t284, A15, H⟩ := H
  replace H := iB H
  obtain ⟨t287, A16, H⟩ := H
  obtain rfl := Option.some.inj H
  go_enter Tryd.func88, Tryd.ntmps88
  try go_wp2_with (first | ((with_reducible refine q07 (N := 3) rfl ?_); refine box0 rfl (N := 3) rfl (cs := #[.slice A0_0 l0_0.length c0_0, .bool a0_1]) (t := 124) zh (z7 HB.out) ?_; clear HB; intro gb277 w17 BK277 GW277 HB; have GE277 := GW277) | ((with_reducible refine q07 (N := 4) rfl ?_); refine q0j ?hg (N := 4) ?hd (cs := #[.int .i64 a1_0, .int .i64 a1_1]) (t := 50) ?hr ?_; (case hd => rfl); (case hg => rfl); (case hr => first | (go_simp; done) | (go_simp; rfl)); intro gb278 hg w18 hbox hb; have n0_ := aS (q01 (g := gb277) (o := .cells #[.slice A0_0 l0_0.length c0_0, .bool a0_1] 124 (0, 0)) (za BK277.out) hb); have n1_ := aS (q02 (z6 HB.out GE277.out) hb); have n2_ := aS (hbox); have n3_ := aS ((by rw [hg]; exact (q06 (z6 HB.out GE277.out)) : w.heap.size ≤ gb278)); have n4_ := aS ((by rw [hg]; exact (q06 (z6 HB.out GE277.out)) : w.heap.size ≤ gb278)); have n5_ := aS ((by rw [hg]; exact Nat.ne_of_lt (q0i (g := gb277) (o := .cells #[.slice A0_0 l0_0.length c0_0, .bool a0_1] 124 (0, 0)) (za BK277.out)) : gb277 ≠ gb278)); have n6_ := aS ((by rw [hg]; exact Nat.ne_of_gt (q0i (g := gb277) (o := .cells #[.slice A0_0 l0_0.length c0_0, .bool a0_1] 124 (0, 0)) (za BK277.out)) : gb278 ≠ gb277)); clear BK277; clear HB; have BK277 := n0_; have HB := n1_; have BK278 := n2_; have GW278 := n3_; have GE278 := n4_; have NB277_278 := n5_; have NB278_277 := n6_; clear n0_ n1_ n2_ n3_ n4_ n5_ n6_; clear hb hbox hg) | ((with_reducible refine q07 (N := 5) rfl ?_); refine q0j ?hg (N := 5) ?hd (cs := #[.int .i64 a2_0, .int .i64 a2_1]) (t := 50) ?hr ?_; (case hd => rfl); (case hg => rfl); (case hr => first | (go_simp; done) | (go_simp; rfl)); intro gb279 hg w19 hbox hb; have n0_ := aS (q01 (g := gb277) (o := .cells #[.slice A0_0 l0_0.length c0_0, .bool a0_1] 124 (0, 0)) (za BK277.out) hb); have n1_ := aS (q01 (g := gb278) (o := .cells #[.int .i64 a1_0, .int .i64 a1_1] 50 (0, 0)) (za BK278.out) hb); have n2_ := aS (q02 (by repeat (first | (with_reducible first | exact HB.out | apply bA | apply bN | apply bD | refine bS ?_ GE277.out | refine bS ?_ GE278.out) | exact HB.out)) hb); have n3_ := aS (hbox); have n4_ := aS ((by rw [hg]; exact (q06 (by repeat (first | (with_reducible first | exact HB.out | apply bA | apply bN | apply bD | refine bS ?_ GE277.out | refine bS ?_ GE278.out) | exact HB.out))) : w.heap.size ≤ gb279)); have n5_ := aS ((by rw [hg]; exact (q06 (by repeat (first | (with_reducible first | exact HB.out | apply bA | apply bN | apply bD | refine bS ?_ GE277.out | refine bS ?_ GE278.out) | exact HB.out))) : w.heap.size ≤ gb279)); have n6_ := aS ((by rw [hg]; exact Nat.ne_of_lt (q0i (g := gb277) (o := .cells #[.slice A0_0 l0_0.length c0_0, .bool a0_1] 124 (0, 0)) (za BK277.out)) : gb277 ≠ gb279)); have n7_ := aS ((by rw [hg]; exact Nat.ne_of_gt (q0i (g := gb277) (o := .cells #[.slice A0_0 l0_0.length c0_0, .bool a0_1] 124 (0, 0)) (za BK277.out)) : gb279 ≠ gb277)); have n8_ := aS ((by rw [hg]; exact Nat.ne_of_lt (q0i (g := gb278) (o := .cells #[.int .i64 a1_0, .int .i64 a1_1] 50 (0, 0)) (za BK278.out)) : gb278 ≠ gb279)); have n9_ := aS ((by rw [hg]; exact Nat.ne_of_gt (q0i (g := gb278) (o := .cells #[.int .i64 a1_0, .int .i64 a1_1] 50 (0, 0)) (za BK278.out)) : gb279 ≠ gb278)); clear BK277; clear BK278; clear HB; have BK277 := n0_; have BK278 := n1_; have HB := n2_; have BK279 := n3_; have GW279 := n4_; have GE279 := n5_; have NB277_279 := n6_; have NB279_277 := n7_; have NB278_279 := n8_; have NB279_278 := n9_; clear n0_ n1_ n2_ n3_ n4_ n5_ n6_ n7_ n8_ n9_; clear hb hbox hg; have hnb20 := NB278_277.out; have hnc20 := NB277_278.out; have hnb21 := NB278_279.out; have hnc21 := NB279_278.out; obtain ⟨hczL_0, hczL_1, hfzL_0, hfzL_1⟩ := bk2 BK278.out; have hnb23 := NB279_277.out; have hnc23 := NB277_279.out; obtain ⟨hczL_0, hczL_1, hfzL_0, hfzL_1⟩ := bk2 BK279.out))
  have n0_ := aS (q0v BK277.out)
  have n1_ := aS (q0v BK278.out)
  have n2_ := aS (q0v BK279.out)
  have n3_ := aS (q0t HB.out)
  clear BK277
  clear BK278
  clear BK279
  clear HB
  have BK277 := n0_
  have BK278 := n1_
  have BK279 := n2_
  have HB := n3_
  clear n0_ n1_ n2_ n3_
  refine start_ (n := 8) (S := fun w' => w'.cell? ⟨gb277, 0, none⟩ = some (.slice A0_0 l0_0.length c0_0) ∧ w'.cell? ⟨gb277, 1, none⟩ = some (.bool a0_1) ∧ w'.cell? ⟨gb278, 0, none⟩ = some (.int .i64 a1_0) ∧ w'.cell? ⟨gb278, 1, none⟩ = some (.int .i64 a1_1) ∧ w'.cell? ⟨gb279, 0, none⟩ = some (.int .i64 a2_0) ∧ w'.cell? ⟨gb279, 1, none⟩ = some (.int .i64 a2_1)) (ds := []) #[false, false, false, false, false, false, false, false] (by kernel_rfl) rfl rfl ⟨(q03 BK277.out 0).trans rfl, (q03 BK277.out 1).trans rfl, (q03 BK278.out 0).trans rfl, (q03 BK278.out 1).trans rfl, (q03 BK279.out 0).trans rfl, (q03 BK279.out 1).trans rfl⟩ (fun hHeld => ?_); refine q14 span_ranger_order.tab3 span_ranger_order.bits3 (fun HT_ HW_ => ?_)
  generalize w19.drew = w25 at BK277 BK278 BK279 HB hHeld ⊢
  refine take_ (i := 0) (N := some 17) (v := ?_) (a' := ?_) #[true, false, false, false, false, false, false, false] rfl rfl (q0m HT_.out HW_.out (by kernel_rfl)) (fun _ _ _ h => h) (Or.inl ⟨by rfl, ?_⟩) hHeld ?_ ?_
  rotate_left
  ·rintro w' ⟨s0, s1, s2, s3, s4, s5⟩
   go_simp
   with_reducible rfl
  rotate_left
  ·simp only [Act.put, s1, s2, s3, q09, q0a]
   rfl
  refine take_ (i := 1) (N := some 18) (v := ?_) (a' := ?_) #[true, true, false, false, false, false, false, false] rfl rfl (q0m HT_.out HW_.out (by kernel_rfl)) (fun _ _ _ h => h) (Or.inl ⟨by rfl, ?_⟩) hHeld ?_ ?_
  rotate_left
  ·rintro w' ⟨s0, s1, s2, s3, s4, s5⟩
   go_simp
   with_reducible rfl
  rotate_left
  ·simp only [Act.put, s1, s2, s3, q09, q0a]
   rfl
  refine take_ (i := 3) (N := some 20) (v := ?_) (a' := ?_) #[true, true, false, true, false, false, false, false] rfl rfl (q0m HT_.out HW_.out (by kernel_rfl)) (fun _ _ _ h => h) (Or.inl ⟨by rfl, ?_⟩) hHeld ?_ ?_
  rotate_left
  ·rintro w' ⟨s0, s1, s2, s3, s4, s5⟩
   go_simp
   with_reducible rfl
  rotate_left
  ·simp only [Act.put, s1, s2, s3, q09, q0a]
   rfl
  refine take_ (i := 4) (N := some 21) (v := ?_) (a' := ?_) #[true, true, false, true, true, false, false, false] rfl rfl (q0m HT_.out HW_.out (by kernel_rfl)) (fun _ _ _ h => h) (Or.inl ⟨by rfl, ?_⟩) hHeld ?_ ?_
  rotate_left
  ·rintro w' ⟨s0, s1, s2, s3, s4, s5⟩
   go_simp
   with_reducible rfl
  rotate_left
  ·simp only [Act.put, s1, s2, s3, q09, q0a]
   rfl
  refine one_ (i := 2) (N := some 19) #[true, true, true, true, true, false, false, false] rfl rfl (q1j HT_.out (by kernel_rfl)) (by decide) (fun K hK => ?_)
  refine goes_ Tryd.func128 (by kernel_rfl) rfl #[.agg #[.slice A0_0 l0_0.length c0_0, .bool a0_1], .agg #[.int .i64 a1_0, .int .i64 a1_1]] (by rfl) rfl rfl zc ?_
  with_reducible refine (span_ranger_path.calls k _ _ l0_0 a0_1 a1_0 a1_1 t281 _ ?side1 ?side2 A14.out).mono ?_
  (case side1 => repeat (first | exact (Kd.C_below HR0_0.out HB.out) | (with_reducible refine cA ?_ _) | (with_reducible refine cN ?_ _) | (with_reducible refine cD ?_)))
  (case side2 => exact HC0_0.out)
  rintro e w26 ⟨v282, rfl, ho0, hb⟩
  refine ⟨_, rfl, ?_⟩
  have n0_ := aS (Kd.R_lower ho0 (q06 (by repeat (first | (with_reducible first | exact HB.out | apply bA | apply bN | apply bD | refine bS ?_ GE277.out | refine bS ?_ GE278.out | refine bS ?_ GE279.out) | exact HB.out))))
  have n1_ := aS (q01 (g := gb277) (o := .cells #[.slice A0_0 l0_0.length c0_0, .bool a0_1] 124 (0, 0)) (za BK277.out) hb)
  have n2_ := aS (q01 (g := gb278) (o := .cells #[.int .i64 a1_0, .int .i64 a1_1] 50 (0, 0)) (za BK278.out) hb)
  have n3_ := aS (q01 (g := gb279) (o := .cells #[.int .i64 a2_0, .int .i64 a2_1] 50 (0, 0)) (za BK279.out) hb)
  have n4_ := aS (q02 (by repeat (first | (with_reducible first | exact HB.out | apply bA | apply bN | apply bD | refine bS ?_ GE277.out | refine bS ?_ GE278.out | refine bS ?_ GE279.out) | exact HB.out)) hb)
  clear BK277
  clear BK278
  clear BK279
  clear HB
  have HO283 := n0_
  have BK277 := n1_
  have BK278 := n2_
  have BK279 := n3_
  have HB := n4_
  clear n0_ n1_ n2_ n3_ n4_
  (try clear hb)
  (try clear hb2)
  (try clear hk)
  (try clear hi)
  (try clear ho0)
  refine hK.out _ _ ⟨(q03 BK277.out 0).trans rfl, (q03 BK277.out 1).trans rfl, (q03 BK278.out 0).trans rfl, (q03 BK278.out 1).trans rfl, (q03 BK279.out 0).trans rfl, (q03 BK279.out 1).trans rfl⟩ (fun hHeld => ?_)
  clear hK K
  refine norm_ (a' := ?_) ?_ ?_
  rotate_left
  ·show Act.put _ (some 19) _ = _
   simp only [Act.put, s1, s2, s3, q09, q0a]
   rfl
  refine one_ (i := 5) (N := some 22) #[true, true, true, true, true, true, false, false] rfl rfl (q1j HT_.out (by kernel_rfl)) (by decide) (fun K hK => ?_)
  refine goes_ Tryd.func128 (by kernel_rfl) rfl #[.agg #[.slice A0_0 l0_0.length c0_0, .bool a0_1], .agg #[.int .i64 a2_0, .int .i64 a2_1]] (by rfl) rfl rfl zc ?_
  with_reducible refine (span_ranger_path.calls k _ _ l0_0 a0_1 a2_0 a2_1 t284 _ ?side1 ?side2 A15.out).mono ?_
  (case side1 => repeat (first | exact (Kd.C_below HR0_0.out HB.out) | (with_reducible refine cA ?_ _) | (with_reducible refine cN ?_ _) | (with_reducible refine cD ?_)))
  (case side2 => exact HC0_0.out)
  rintro e w27 ⟨v285, rfl, ho0, hb⟩
  refine ⟨_, rfl, ?_⟩
  have n0_ := aS (Kd.R_elder' (zf HO283.out) (Kd.R_base ho0) hb)
  have n1_ := aS (Kd.R_lower (Kd.R_new' ho0 (Kd.R_lt (zf HO283.out))) (q06 (by repeat (first | (with_reducible first | exact HB.out | apply bA | apply bN | apply bD | refine bS ?_ GE277.out | refine bS ?_ GE278.out | refine bS ?_ GE279.out) | exact HB.out))))
  have n2_ := aS (q01 (g := gb277) (o := .cells #[.slice A0_0 l0_0.length c0_0, .bool a0_1] 124 (0, 0)) (za BK277.out) hb)
  have n3_ := aS (q01 (g := gb278) (o := .cells #[.int .i64 a1_0, .int .i64 a1_1] 50 (0, 0)) (za BK278.out) hb)
  have n4_ := aS (q01 (g := gb279) (o := .cells #[.int .i64 a2_0, .int .i64 a2_1] 50 (0, 0)) (za BK279.out) hb)
  have n5_ := aS (q02 (by repeat (first | (with_reducible first | exact HB.out | apply bA | apply bN | apply bD | refine bS ?_ GE277.out | refine bS ?_ GE278.out | refine bS ?_ GE279.out) | exact HB.out)) hb)
  clear HO283
  clear BK277
  clear BK278
  clear BK279
  clear HB
  have HO283 := n0_
  have HO286 := n1_
  have BK277 := n2_
  have BK278 := n3_
  have BK279 := n4_
  have HB := n5_
  clear n0_ n1_ n2_ n3_ n4_ n5_
  (try clear hb)
  (try clear hb2)
  (try clear hk)
  (try clear hi)
  (try clear ho0)
  obtain ⟨Ao28, co28, eo28⟩ := Kd.R_slice HO283.out
  (first | subst eo28 | (injection eo28 with f1_ f2_ f3_; have f4_ := f1_.symm; have f5_ := f3_.symm; clear f1_ f2_ f3_; subst f4_; subst f5_))
  obtain ⟨Ao29, co29, eo29⟩ := Kd.R_slice HO286.out
  (first | subst eo29 | (injection eo29 with f1_ f2_ f3_; have f4_ := f1_.symm; have f5_ := f3_.symm; clear f1_ f2_ f3_; subst f4_; subst f5_))
  refine hK.out _ _ ⟨(q03 BK277.out 0).trans rfl, (q03 BK277.out 1).trans rfl, (q03 BK278.out 0).trans rfl, (q03 BK278.out 1).trans rfl, (q03 BK279.out 0).trans rfl, (q03 BK279.out 1).trans rfl⟩ (fun hHeld => ?_)
  clear hK K
  refine norm_ (a' := ?_) ?_ ?_
  rotate_left
  ·show Act.put _ (some 22) _ = _
   simp only [Act.put, s1, s2, s3, q09, q0a]
   rfl
  refine one_ (i := 6) (N := some 23) #[true, true, true, true, true, true, true, false] rfl rfl (q1j HT_.out (by kernel_rfl)) (by decide) (fun K hK => ?_)
  refine goes_ Tryd.func127 (by kernel_rfl) rfl #[.slice Ao28 t281.length co28, .slice Ao29 t284.length co29] (by rfl) rfl rfl zc ?_
  with_reducible refine (slices_Compare_int_int.calls k _ _ t281 _ _ t284 t287 _ ?side1 ?side2 ?side3 ?side4 A16.out).mono ?_
  (case side1 => repeat (first | exact (Kd.R_reads' HO283.out).2.2 | (with_reducible refine cA ?_ _) | (with_reducible refine cN ?_ _) | (with_reducible refine cD ?_)))
  (case side2 => exact (Kd.R_reads' HO283.out).2.1)
  (case side3 => repeat (first | exact (Kd.R_reads' HO286.out).2.2 | (with_reducible refine cA ?_ _) | (with_reducible refine cN ?_ _) | (with_reducible refine cD ?_)))
  (case side4 => exact (Kd.R_reads' HO286.out).2.1)
  rintro e w' ⟨rfl, ⟨nd, rfl⟩⟩
  refine ⟨_, rfl, ?_⟩
  refine hK.out _ _ ⟨(q03 BK277.out 0).trans rfl, (q03 BK277.out 1).trans rfl, (q03 BK278.out 0).trans rfl, (q03 BK278.out 1).trans rfl, (q03 BK279.out 0).trans rfl, (q03 BK279.out 1).trans rfl⟩ (fun hHeld => ?_)
  clear hK K
  refine norm_ (a' := ?_) ?_ ?_
  rotate_left
  ·show Act.put _ (some 23) _ = _
   simp only [Act.put, s1, s2, s3, q09, q0a]
   rfl
  refine q0e (i := 7) (N := some 6) (v := ?_) (a' := ?_) #[true, true, true, true, true, true, true, true] rfl rfl (q0b HT_.out (by kernel_rfl)) (fun _ _ _ h => h) (Or.inl ⟨by rfl, ?_⟩) ?_ ?_
  rotate_left
  ·intro w'
   go_simp
   with_reducible rfl
  rotate_left
  ·simp only [Act.put, s1, s2, s3, q09, q0a]
   rfl
  refine done_ (q1l HT_.out (by kernel_rfl)) ?_
  try go_wp2
  go_ret
  exact ⟨by first | rfl | (simp [q05, q04] <;> rfl) | (simp [*, q05, q04] <;> rfl), by repeat (first | (with_reducible first | exact HB.out | apply bA | apply bN | apply bD | refine bS ?_ GE277.out | refine bS ?_ GE278.out | refine bS ?_ GE279.out) | exact HB.out)⟩
def spE (k : Nat) (l0 : List S43) (q : Bool) (s0 s1 s2 s3 : Int) : Option Int := (ptE k l0 q [⟨s0, s1⟩, ⟨s2, s3⟩]).bind fun r => if r ≠ 0 then some r else (span_ranger_order.f k l0 q s0 s1 s2 s3).bind fun o => if o > 0 then some 9 else some 0
def span_span.f (k : Nat) (l0 : List S43) (q : Bool) (s0 s1 s2 s3 : Int) : Option (List S43 × Bool × Int) := (spE k l0 q s0 s1 s2 s3).bind fun r => some (l0, q, r)
set_option maxHeartbeats 8000000 in
set_option maxRecDepth 100000 in
theorem span_span.core (k : Nat) (A0 : Option Addr) (c0 : Nat) (l0 : List S43) (q : Bool) (s0 s1 s2 s3 : Int) (r : Int) (w : World) (hr0 : Kd.C k43 w A0 l0.length l0) (hc0 : l0.length ≤ c0) (h : spE k l0 q s0 s1 s2 s3 = some r) :
 Calls Tryd.prog 82 #[.agg #[.slice A0 l0.length c0, .bool q], .agg #[.int .i64 s0, .int .i64 s1, .int .i64 s2, .int .i64 s3]] w fun e w' => e = .returned (.tuple #[.agg #[.slice A0 l0.length c0, .bool q], .int .i64 r]) ∧ Below w.heap.size w w' := by
 have hu24 := Tryd.underlying24
 have hu50 := Tryd.underlying50
 have hu52 := Tryd.underlying52
 have hu124 := Tryd.underlying124
 have hu134 := Tryd.underlying134
 have HC := aS hr0
 have HL := aS hc0
 clear hr0 hc0
 obtain ⟨r0, hr, h⟩ := Option.bind_eq_some_iff.1 h
 obtain ⟨y, hy⟩ : ∃ y_ : List S50, y_ = [⟨s0, s1⟩, ⟨s2, s3⟩] := ⟨_, rfl⟩
 rw [← hy] at hr
 have HY := aS hy
 have HE := aS hr
 have H := aS h
 clear hr h hy
 go_enter Tryd.func82, Tryd.ntmps82
 go_upto_region 1 with (first | ((with_reducible refine q07 (N := 2) rfl ?_); refine q1u rfl (N := 2) rfl (cs := #[.slice A0 l0.length c0, .bool q]) (t := 24) zh ?_; intro gd wd DK GD DS) | ((with_reducible refine q07 (N := 3) rfl ?_); refine q1u rfl (N := 3) rfl (cs := #[.int .i64 s0, .int .i64 s1, .int .i64 s2, .int .i64 s3]) (t := 52) zh ?_; intro gs ws_ SK GZ SS) | ((with_reducible refine q07 (N := 4) rfl ?_); refine q1u rfl (N := 4) rfl (cs := #[.slice none 0 0, .bool false]) (t := 124) zh ?_; intro gr wr_ RK GS RS))
 have n_DK := aS (q01 (q01 DK.out SS.out) RS.out)
 have n_SK := aS (q01 SK.out RS.out)
 have HB := aS (q02 (q02 DS.out SS.out) RS.out)
 have GR := aS (show w.heap.size ≤ gr from Nat.le_trans (Below.size (q02 DS.out SS.out)) GS.out)
 clear DK DS GD RS GS SK SS GZ
 have DK := n_DK
 have SK := n_SK
 clear n_DK n_SK
 obtain ⟨hd0, hd1, -, -⟩ := bk2 DK.out
 obtain ⟨hr0, hr1, hrf0, hrf1⟩ := bk2 RK.out
 obtain ⟨hs0, hs1, hs2, hs3, -, -, -, -⟩ := bk4 SK.out
 go_upto_region 2 with (first | ((with_reducible refine q07 (N := 14) rfl ?_); refine Kd.R_lit k50 _ 50 ?hg (N := 14) ?hd (xs := ([(⟨s0, s1⟩ : S50), (⟨s2, s3⟩ : S50)] : List (S50))) (inner := [.int .i64 s0, .int .i64 s1, .int .i64 s2, .int .i64 s3]) (ok := fun _ => True) (okp := fun _ => True) ?hr ?hp (fun _ hk => hk) trivial (Below.refl _ _) (Nat.le_refl _) (by simp) ?_; (case hd => rfl); (case hg => rfl); (case hr => first | (go_simp; done) | (go_simp; rfl)); (case hp => exact (Reps.c2 (show Kd.M k50 _ _ _ (⟨s0, s1⟩ : S50) [.int .i64 s0, .int .i64 s1] from (k50_mkM _ _ _ (⟨s0, s1⟩ : S50) )) (Reps.c2 (show Kd.M k50 _ _ _ (⟨s2, s3⟩ : S50) [.int .i64 s2, .int .i64 s3] from (k50_mkM _ _ _ (⟨s2, s3⟩ : S50) )) (Reps.none _ _)))); intro v299 w15 ho16 hb hg_ hnew_; clear hg_ hnew_; (first | rw [← HY.out] at ho16 | (simp only [Int.reduceToNat] at ho16; rw [← HY.out] at ho16)); obtain ⟨A9, c9, e9_⟩ := Kd.R_slice ho16; subst e9_; have HR9 := aS (Kd.R_reads' ho16).2; have n_RK := aS (q01 RK.out hb); have n_SK := aS (q01 SK.out hb); have n_HB := aS (q02 HB.out hb); clear hd0 hd1 hr0 hr1 hrf0 hrf1 hs0 hs1 hs2 hs3; clear RK SK HB; have RK := n_RK; have SK := n_SK; have HB := n_HB; clear n_RK n_SK n_HB; clear DK ho16 hb; obtain ⟨hr0, hr1, hrf0, hrf1⟩ := bk2 RK.out; obtain ⟨hs0, hs1, hs2, hs3, -, -, -, -⟩ := bk4 SK.out) | (go_at_call 87; (with_reducible refine (span_points.core k A0 c0 l0 q A9 c9 y r0 _ (Kd.C_below HC.out HB.out) HL.out HR9.out.2 HR9.out.1 HE.out).mono ?_); rintro e w7 ⟨rfl, hb⟩; have n_RK := aS (q01 RK.out hb); have n_SK := aS (q01 SK.out hb); have n_HB := aS (q02 HB.out hb); clear hr0 hr1 hrf0 hrf1 hs0 hs1 hs2 hs3 HR9; clear RK SK HB; have RK := n_RK; have SK := n_SK; have HB := n_HB; clear n_RK n_SK n_HB; clear hb; obtain ⟨hr0, hr1, hrf0, hrf1⟩ := bk2 RK.out; obtain ⟨hs0, hs1, hs2, hs3, -, -, -, -⟩ := bk4 SK.out) | ((with_reducible refine q07 (N := 6) rfl ?_); refine q1u rfl (N := 6) rfl (cs := #[.slice none 0 0, .bool false]) (t := 124) zh ?_; intro ga wa AK GA AS; obtain ⟨hv0, hv1, -, -⟩ := bk2 AK.out) | (refine wpList_store_mid (by rfl) 124 (.tmp 6) (.tmp 16) (by rfl) ga 0 #[.slice A0 l0.length c0, .bool q] ?hx ?hy ?hT ?hI ?h1 ?_; go_must ((case hx => rfl); (case hy => rfl); (case hT => exact there_len AK.out rfl); (case hI => kernel_rfl); (case h1 => first | rfl | (simp [Value.oneCell']; done) | (simp; done) | decide)); have hb := (q1o [.slice A0 l0.length c0, .bool q] AS.out GA.out AK.out rfl).1; have n_AK := aS (q1o [.slice A0 l0.length c0, .bool q] AS.out GA.out AK.out rfl).2; clear AK AS GA; generalize (wa.setCells ga 0 [.slice A0 l0.length c0, .bool q]) = wb at hb n_AK ⊢; clear hv0 hv1; have n_RK := aS (q01 RK.out hb); have n_SK := aS (q01 SK.out hb); have n_HB := aS (q02 HB.out hb); clear hr0 hr1 hrf0 hrf1 hs0 hs1 hs2 hs3; clear RK SK HB; have RK := n_RK; have SK := n_SK; have HB := n_HB; clear n_RK n_SK n_HB; have AK := n_AK; clear n_AK hb))
 obtain ⟨hr0, hr1, hrf0, hrf1⟩ := bk2 RK.out
 obtain ⟨hs0, hs1, hs2, hs3, -, -, -, -⟩ := bk4 SK.out
 obtain ⟨ha0, ha1, -, -⟩ := bk2 AK.out
 have HH := H.out
 clear H HE
 by_cases z : r0 ≠ 0
 ·obtain rfl := Option.some.inj ((if_pos z).symm.trans HH)
  have z1 : (r0 != 0) = true := bne_iff_ne.mpr z
  have z2 : (r0 == 0) = false := beq_eq_false_iff_ne.mpr z
  clear z HH
  go_wp2
  refine bodyPost_ret (results_ct rfl _ _ gr 124 #[.slice A0 l0.length c0, .bool q] (0, 0) _ rfl (by (with_reducible repeat (first | refine kN ?_ _ | refine kD ?_ | refine kA ?_ _)); refine q0h (cs := #[.slice A0 l0.length c0, .bool false]) ?_ 1 _ rfl; (with_reducible repeat (first | refine kN ?_ _ | refine kD ?_ | refine kA ?_ _)); refine q0h (cs := #[.slice none 0 0, .bool false]) ?_ 0 _ rfl; (with_reducible repeat (first | refine kN ?_ _ | refine kD ?_ | refine kA ?_ _)); exact RK.out) Tryd.underlying124 rfl (by kernel_rfl)) rfl ?_
  exact ⟨rfl, by repeat (first | (with_reducible first | exact HB.out | apply bA | apply bN | apply bD | refine bS ?_ GR.out) | exact HB.out)⟩
 ·have H2 := (if_neg z).symm.trans HH
  obtain rfl : r0 = 0 := Classical.not_not.1 z
  clear z HH
  obtain ⟨o, ho, H2⟩ := Option.bind_eq_some_iff.1 H2
  have HO := aS ho
  clear ho
  by_cases z : o > 0
  ·obtain rfl := Option.some.inj ((if_pos z).symm.trans H2)
   have z1 : decide (o > 0) = true := decide_eq_true z
   clear z H2
   go_upto_region 3 with ((go_at_call 88; (with_reducible refine (span_ranger_order.calls k A0 c0 l0 q s0 s1 s2 s3 o _ (Kd.C_below HC.out HB.out) HL.out HO.out).mono ?_); rintro e w8 ⟨rfl, hb⟩; have n_RK := aS (q01 RK.out hb); have n_SK := aS (q01 SK.out hb); have n_AK := aS (q01 AK.out hb); have n_HB := aS (q02 HB.out hb); clear hr0 hr1 hrf0 hrf1 hs0 hs1 hs2 hs3 ha0 ha1; clear RK SK AK HB; have RK := n_RK; have SK := n_SK; have AK := n_AK; have HB := n_HB; clear n_RK n_SK n_AK n_HB; clear hb; obtain ⟨hr0, hr1, hrf0, hrf1⟩ := bk2 RK.out; obtain ⟨hs0, hs1, hs2, hs3, -, -, -, -⟩ := bk4 SK.out; obtain ⟨ha0, ha1, -, -⟩ := bk2 AK.out))
   go_wp2
   refine bodyPost_ret (results_ct rfl _ _ gr 124 #[.slice A0 l0.length c0, .bool q] (0, 0) _ rfl (by (with_reducible repeat (first | refine kN ?_ _ | refine kD ?_ | refine kA ?_ _)); refine q0h (cs := #[.slice A0 l0.length c0, .bool false]) ?_ 1 _ rfl; (with_reducible repeat (first | refine kN ?_ _ | refine kD ?_ | refine kA ?_ _)); refine q0h (cs := #[.slice none 0 0, .bool false]) ?_ 0 _ rfl; (with_reducible repeat (first | refine kN ?_ _ | refine kD ?_ | refine kA ?_ _)); exact RK.out) Tryd.underlying124 rfl (by kernel_rfl)) rfl ?_
   exact ⟨rfl, by repeat (first | (with_reducible first | exact HB.out | apply bA | apply bN | apply bD | refine bS ?_ GR.out) | exact HB.out)⟩
  ·obtain rfl := Option.some.inj ((if_neg z).symm.trans H2)
   have z1 : decide (o > 0) = false := decide_eq_false z
   clear z H2
   go_upto_region 4 with ((go_at_call 88; (with_reducible refine (span_ranger_order.calls k A0 c0 l0 q s0 s1 s2 s3 o _ (Kd.C_below HC.out HB.out) HL.out HO.out).mono ?_); rintro e w8 ⟨rfl, hb⟩; have n_RK := aS (q01 RK.out hb); have n_SK := aS (q01 SK.out hb); have n_AK := aS (q01 AK.out hb); have n_HB := aS (q02 HB.out hb); clear hr0 hr1 hrf0 hrf1 hs0 hs1 hs2 hs3 ha0 ha1; clear RK SK AK HB; have RK := n_RK; have SK := n_SK; have AK := n_AK; have HB := n_HB; clear n_RK n_SK n_AK n_HB; clear hb; obtain ⟨hr0, hr1, hrf0, hrf1⟩ := bk2 RK.out; obtain ⟨hs0, hs1, hs2, hs3, -, -, -, -⟩ := bk4 SK.out; obtain ⟨ha0, ha1, -, -⟩ := bk2 AK.out))
   go_wp2
   refine bodyPost_ret (results_ct rfl _ _ gr 124 #[.slice A0 l0.length c0, .bool q] (0, 0) _ rfl (by (with_reducible repeat (first | refine kN ?_ _ | refine kD ?_ | refine kA ?_ _)); refine q0h (cs := #[.slice A0 l0.length c0, .bool false]) ?_ 1 _ rfl; (with_reducible repeat (first | refine kN ?_ _ | refine kD ?_ | refine kA ?_ _)); refine q0h (cs := #[.slice none 0 0, .bool false]) ?_ 0 _ rfl; (with_reducible repeat (first | refine kN ?_ _ | refine kD ?_ | refine kA ?_ _)); exact RK.out) Tryd.underlying124 rfl (by kernel_rfl)) rfl ?_
   exact ⟨rfl, by repeat (first | (with_reducible first | exact HB.out | apply bA | apply bN | apply bD | refine bS ?_ GR.out) | exact HB.out)⟩
theorem span_span.calls (k : Nat) (P0_0_ : Nat → Prop) (A0_0 : Option Addr) (c0_0 : Nat) (l0_0 : List (S43)) (a0_1 : Bool) (a1_0 : Int) (a1_1 : Int) (a1_2 : Int) (a1_3 : Int) (r1 : List (S43)) (r2 : Bool) (r3 : Int) (w : World) (hs0_0 : Kd.V k43 43 w w.heap.size (fun k_ => P0_0_ k_) (.slice A0_0 l0_0.length c0_0) l0_0) (h : span_span.f k l0_0 a0_1 a1_0 a1_1 a1_2 a1_3 = some (r1, r2, r3)) :
 Calls Tryd.prog 82 #[.agg #[.slice A0_0 l0_0.length c0_0, .bool a0_1], .agg #[.int .i64 a1_0, .int .i64 a1_1, .int .i64 a1_2, .int .i64 a1_3]] w fun e w' => ∃ v0_ : Value, e = .returned (.tuple #[.agg #[v0_, .bool r2], .int .i64 r3]) ∧ Kd.V k43 43 w' w.heap.size (fun k_ => (P0_0_ k_ ∨ w.heap.size ≤ k_)) v0_ r1 ∧ Below w.heap.size w w' := by
 obtain ⟨r, hr, h⟩ := Option.bind_eq_some_iff.1 h
 simp only [Option.some.injEq, Prod.mk.injEq] at h
 obtain ⟨rfl, rfl, rfl⟩ := h
 refine (span_span.core k A0_0 c0_0 l0_0 a0_1 a1_0 a1_1 a1_2 a1_3 r w (Kd.V_reads' hs0_0).2.2 (Kd.V_reads' hs0_0).2.1 hr).mono ?_
 rintro e w' ⟨rfl, hb⟩
 exact ⟨_, rfl, Kd.V_mono (Kd.V_below hs0_0 hb) (fun _ hk => .inl hk), hb⟩
theorem span_span.mono (l0 : List S43) (q : Bool) (s0 s1 s2 s3 : Int) (k : Nat) : LeO (span_span.f k l0 q s0 s1 s2 s3) (span_span.f (k + 1) l0 q s0 s1 s2 s3) := by
 unfold span_span.f spE
 repeat' first | with_reducible first | apply ptE.mono | apply span_ranger_order.mono | exact LeO.refl _ | exact LeO.none _ | refine LeO.ite ?_ ?_ | refine LeO.bind ?_ (fun _ => ?_)
def span_ranger_within.l0 : Nat → Int → Int → List (S43) → Bool → Option (Bool)
 | 0, _, _, _, _ => none
 | k + 1, x1, x2, x289000, x289001 => if x1 ≥ 0 then (if x1 = x2 then (some (x1 == x2)) else (if 0 ≤ x1 then (if x1 < (x289000.length : Int) then (span_ranger_within.l0 k ((q00 x289000 x1).f4) x2 x289000 x289001) else (none)) else (none))) else (some (x1 == x2))
def span_ranger_within.f (k : Nat) (l0_0 : List (S43)) (a0_1 : Bool) (a1 : Int) (a2 : Int) : Option (Bool) := span_ranger_within.l0 k a1 a2 l0_0 a0_1
theorem span_ranger_within.mono_l : ∀ k, (∀ y0 y1 y2 y3, LeO (span_ranger_within.l0 k y0 y1 y2 y3) (span_ranger_within.l0 (k + 1) y0 y1 y2 y3))
 | 0 => fun _ _ _ _ r h => by simp [span_ranger_within.l0] at h
 | k + 1 => by
  have ih0 := span_ranger_within.mono_l k
  ·intro y0 y1 y2 y3
   unfold span_ranger_within.l0
   repeat' first | with_reducible first | apply ih0 | exact LeO.refl _ | exact LeO.none _ | refine LeO.ite ?_ ?_ | refine LeO.bind ?_ (fun _ => ?_) | (first | apply ih0 | exact LeO.none _ | refine LeO.ite ?_ ?_ | refine LeO.bind ?_ (fun _ => ?_))
theorem span_ranger_within.mono : ∀ a0 a1 a2 a3 k, LeO (span_ranger_within.f k a0 a1 a2 a3) (span_ranger_within.f (k + 1) a0 a1 a2 a3) := by
 intro a0 a1 a2 a3 k
 have ih0 := span_ranger_within.mono_l k
 unfold span_ranger_within.f
 repeat' first | with_reducible first | apply ih0 | exact LeO.refl _ | exact LeO.none _ | refine LeO.ite ?_ ?_ | refine LeO.bind ?_ (fun _ => ?_) | (first | apply ih0 | exact LeO.none _ | refine LeO.ite ?_ ?_ | refine LeO.bind ?_ (fun _ => ?_))
set_option maxHeartbeats 8000000 in
set_option maxRecDepth 100000 in
theorem span_ranger_within.calls (k : Nat) (A0_0 : Option Addr) (c0_0 : Nat) (l0_0 : List (S43)) (a0_1 : Bool) (a1 : Int) (a2 : Int) (r : Bool) (w : World) (hr0_0 : Kd.C k43 w A0_0 l0_0.length l0_0) (hc0_0 : l0_0.length ≤ c0_0) (h : span_ranger_within.f k l0_0 a0_1 a1 a2 = some r) :
 Calls Tryd.prog 123 #[.agg #[.slice A0_0 l0_0.length c0_0, .bool a0_1], .int .i64 a1, .int .i64 a2] w fun e w' => e = .returned (.bool r) ∧ Below w.heap.size w w' := by
 have hu124 := Tryd.underlying124
 have HR0_0 := aS hr0_0
 have HC0_0 := aS hc0_0
 clear hr0_0 hc0_0
 have HB := aS (Below.refl w.heap.size w)
 have H := h; clear h; unfold span_ranger_within.f at H
 have H' := aS H
 clear H
 go_enter Tryd.func123, Tryd.ntmps123
 go_wp2_with (first | ((with_reducible refine q07 (N := 3) rfl ?_); refine box0 rfl (N := 3) rfl (cs := #[.slice A0_0 l0_0.length c0_0, .bool a0_1]) (t := 124) zh (z7 HB.out) ?_; clear HB; intro gb288 w4 BK288 GW288 HB; have GE288 := GW288))
 go_loopg [1] k (fun kq v1 w' => ∃ (x1_1 : Int), v1 = .int .i64 x1_1 ∧ Aside0 (span_ranger_within.l0 kq x1_1 a2 l0_0 a0_1 = some r) ∧ Aside0 (kq ≤ k) ∧ Aside0 (w'.heap[gb288]? = some (.cells #[(.slice A0_0 l0_0.length c0_0), .bool a0_1] 124 (0, 0))) ∧ Aside0 (Below w.heap.size w w'))
 case atStart => exact ⟨(a1), zi, H', ⟨Nat.le_refl _⟩, ⟨by (with_reducible repeat (first | refine kN ?_ _ | refine kD ?_ | refine kA ?_ _)); exact BK288.out⟩, ⟨by repeat (first | (with_reducible first | exact HB.out | apply bA | apply bN | apply bD | refine bS ?_ GE288.out) | exact HB.out)⟩⟩
 case round =>
  clear H'
  obtain ⟨x1_1, rfl, HA, HK1, BK288, HB⟩ := hrel
  cases gk with
  | zero => exact absurd HA.out (by simp [span_ranger_within.l0])
  | succ k1 =>
   have H := HA.out
   clear HA
   simp only [span_ranger_within.l0] at H
   refine iL H ?p5 ?n5 <;> clear H
   case' p5 => intro c5b0 H; refine iE H ?p6 ?n6 <;> clear H
   case' p6 => intro c6b0 c6b1 H
   case' n6 => intro c6 c6b0 c6b1 H; obtain ⟨hczL_0, hczL_1, hfzL_0, hfzL_1⟩ := bk2 BK288.out; refine iLp H ?_; clear H; intro c7b0 H; refine iTp H ?_; clear H; intro c8b0 H
   case' n5 => intro c5b0 H
   case p6|n5 =>
    obtain rfl := Option.some.inj H
    go_wp2
    go_ret
    exact ⟨by first | rfl | (simp [q05, q04] <;> rfl) | (simp [*, q05, q04] <;> rfl), by repeat (first | (with_reducible first | exact HB.out | apply bA | apply bN | apply bD | refine bS ?_ GE288.out) | exact HB.out)⟩
   case n6 =>
    have H' := aS H
    clear H
    obtain ⟨ad289, A289_2, c289_2, A289_5, c289_5, e289, hx289_0, hx289_1, hx289_2, hx289_3, hx289_4, hx289_5, HC289_2, HR289_2, HC289_5, HR289_5, p289, q289⟩ := q0o HB.out HR0_0.out x1_1 zb zb
    cases e289
    go_wp2
    go_roundg k1
    case measure => have := HK1.out; omega
    case rel => exact ⟨((q00 l0_0 x1_1).f4), zi, H', ⟨by have := HK1.out; omega⟩, ⟨by (with_reducible repeat (first | refine kN ?_ _ | refine kD ?_ | refine kA ?_ _)); exact BK288.out⟩, ⟨by repeat (first | (with_reducible first | exact HB.out | apply bA | apply bN | apply bD | refine bS ?_ GE288.out) | exact HB.out)⟩⟩
theorem lf_emp (a b : ByteArray) : a.extract 0 0 ++ b = b := by
 apply ByteArray.ext
 simp
theorem lf_end (a b : ByteArray) : b ++ a.extract a.size a.size = b := by
 apply ByteArray.ext
 simp
theorem lf_both (a : ByteArray) : a.extract 0 0 ++ a.extract a.size a.size = ByteArray.empty := by
 apply ByteArray.ext
 simp
def span_left.f (a0 : ByteArray) (n s0 s1 s2 s3 : Int) : Option ByteArray := if a0.size ≤ 1000000 ∧ (s0 = n → 0 ≤ s1 ∧ s1 ≤ (a0.size : Int)) ∧ (s2 = n → 0 ≤ s3 ∧ s3 ≤ (a0.size : Int)) then some (a0.extract 0 (if s0 = n then s1.toNat else 0) ++ a0.extract (if s2 = n then s3.toNat else a0.size) a0.size) else none
set_option maxHeartbeats 8000000 in
theorem span_left.calls (a0 : ByteArray) (n s0 s1 s2 s3 : Int) (r : ByteArray) (w : World) (h : span_left.f a0 n s0 s1 s2 s3 = some r) :
 Calls Tryd.prog 124 #[.string a0, .int .i64 n, .agg #[.int .i64 s0, .int .i64 s1, .int .i64 s2, .int .i64 s3]] w fun e w' => e = .returned (.string r) ∧ Below w.heap.size w w' := by
 have hu52 := Tryd.underlying52
 have hu50 := Tryd.underlying50
 unfold span_left.f at h
 split at h
 ·rename_i hc
  obtain ⟨hz, hl, hh⟩ := hc
  have h2 := Option.some.inj h
  clear h
  by_cases c1 : s0 = n
  ·have b1 : (s0 == n) = true := beq_iff_eq.mpr c1
   replace hl := hl c1
   rw [if_pos c1] at h2
   clear c1
   by_cases c2 : s2 = n
   ·have b2 : (s2 == n) = true := beq_iff_eq.mpr c2
    replace hh := hh c2
    rw [if_pos c2] at h2
    clear c2
    subst h2
    have g1 := eq_true hl.1
    have g2 : decide (0 ≤ s1) = true := decide_eq_true hl.1
    have g3 := eq_true hl.2
    have g4 : decide (s1 ≤ (a0.size : Int)) = true := decide_eq_true hl.2
    have g5 := eq_true hh.1
    have g6 : decide (0 ≤ s3) = true := decide_eq_true hh.1
    have g7 := eq_true hh.2
    have g8 : decide (s3 ≤ (a0.size : Int)) = true := decide_eq_true hh.2
    have hsz : (a0.extract 0 s1.toNat).size + (a0.extract s3.toNat a0.size).size ≤ 9223372036854775807 := by rw [ByteArray.size_extract, ByteArray.size_extract]; omega
    have k1 := eq_true hsz
    have k3 : (9223372036854775807 < (a0.extract 0 s1.toNat).size + (a0.extract s3.toNat a0.size).size) = False := eq_false (Nat.not_lt.2 hsz)
    clear hl
    clear hh
    go_enter Tryd.func124, Tryd.ntmps124
    go_wp2_with (((with_reducible refine q07 (N := 5) rfl ?_); refine q1u rfl (N := 5) rfl (cs := #[.int .i64 s0, .int .i64 s1, .int .i64 s2, .int .i64 s3]) (t := 52) zh ?_; intro gs ws_ SK GS SS; obtain ⟨hs0, hs1, hs2, hs3, -, -, -, -⟩ := bk4 SK.out))
    repeat (go_quiet (fail); try go_wp2)
    go_ret
    exact ⟨(rfl), by repeat (first | exact SS.out | apply bA | apply bN | apply bD)⟩
   ·have b2 : (s2 == n) = false := beq_eq_false_iff_ne.mpr c2
    clear hh
    rw [if_neg c2] at h2
    clear c2
    subst h2
    have g1 := eq_true hl.1
    have g2 : decide (0 ≤ s1) = true := decide_eq_true hl.1
    have g3 := eq_true hl.2
    have g4 : decide (s1 ≤ (a0.size : Int)) = true := decide_eq_true hl.2
    have hsz2 : (a0.extract 0 s1.toNat).size ≤ 9223372036854775807 := by rw [ByteArray.size_extract]; omega
    have hsz3 : (a0.extract 0 s1.toNat).size + ByteArray.empty.size ≤ 9223372036854775807 := by rw [show ByteArray.empty.size = 0 from rfl, Nat.add_zero]; exact hsz2
    have n1 := eq_true hsz2
    have n4 : (9223372036854775807 < (a0.extract 0 s1.toNat).size + ByteArray.empty.size) = False := eq_false (Nat.not_lt.2 hsz3)
    have n3 : (9223372036854775807 < (a0.extract 0 s1.toNat).size) = False := eq_false (Nat.not_lt.2 hsz2)
    have m2 := eq_true (Int.le_refl (a0.size : Int))
    clear hl
    go_enter Tryd.func124, Tryd.ntmps124
    go_wp2_with (((with_reducible refine q07 (N := 5) rfl ?_); refine q1u rfl (N := 5) rfl (cs := #[.int .i64 s0, .int .i64 s1, .int .i64 s2, .int .i64 s3]) (t := 52) zh ?_; intro gs ws_ SK GS SS; obtain ⟨hs0, hs1, hs2, hs3, -, -, -, -⟩ := bk4 SK.out))
    repeat (go_quiet (fail); try go_wp2)
    go_ret
    exact ⟨(congrArg (fun b => Ending.returned (Value.string b)) (lf_end _ _).symm), by repeat (first | exact SS.out | apply bA | apply bN | apply bD)⟩
  ·have b1 : (s0 == n) = false := beq_eq_false_iff_ne.mpr c1
   clear hl
   rw [if_neg c1] at h2
   clear c1
   by_cases c2 : s2 = n
   ·have b2 : (s2 == n) = true := beq_iff_eq.mpr c2
    replace hh := hh c2
    rw [if_pos c2] at h2
    clear c2
    subst h2
    have g5 := eq_true hh.1
    have g6 : decide (0 ≤ s3) = true := decide_eq_true hh.1
    have g7 := eq_true hh.2
    have g8 : decide (s3 ≤ (a0.size : Int)) = true := decide_eq_true hh.2
    have hsz : (a0.extract 0 0).size + (a0.extract s3.toNat a0.size).size ≤ 9223372036854775807 := by rw [ByteArray.size_extract, ByteArray.size_extract]; omega
    have k1 := eq_true hsz
    have k3 : (9223372036854775807 < (a0.extract 0 0).size + (a0.extract s3.toNat a0.size).size) = False := eq_false (Nat.not_lt.2 hsz)
    clear hh
    go_enter Tryd.func124, Tryd.ntmps124
    go_wp2_with (((with_reducible refine q07 (N := 5) rfl ?_); refine q1u rfl (N := 5) rfl (cs := #[.int .i64 s0, .int .i64 s1, .int .i64 s2, .int .i64 s3]) (t := 52) zh ?_; intro gs ws_ SK GS SS; obtain ⟨hs0, hs1, hs2, hs3, -, -, -, -⟩ := bk4 SK.out))
    repeat (go_quiet (fail); try go_wp2)
    go_ret
    exact ⟨(congrArg (fun b => Ending.returned (Value.string b)) (lf_emp _ _).symm), by repeat (first | exact SS.out | apply bA | apply bN | apply bD)⟩
   ·have b2 : (s2 == n) = false := beq_eq_false_iff_ne.mpr c2
    clear hh
    rw [if_neg c2] at h2
    clear c2
    subst h2
    have hsz2 : (a0.extract 0 0).size ≤ 9223372036854775807 := by rw [ByteArray.size_extract]; omega
    have hsz3 : (a0.extract 0 0).size + ByteArray.empty.size ≤ 9223372036854775807 := by rw [show ByteArray.empty.size = 0 from rfl, Nat.add_zero]; exact hsz2
    have n1 := eq_true hsz2
    have n4 : (9223372036854775807 < (a0.extract 0 0).size + ByteArray.empty.size) = False := eq_false (Nat.not_lt.2 hsz3)
    have n3 : (9223372036854775807 < (a0.extract 0 0).size) = False := eq_false (Nat.not_lt.2 hsz2)
    have m2 := eq_true (Int.le_refl (a0.size : Int))
    go_enter Tryd.func124, Tryd.ntmps124
    go_wp2_with (((with_reducible refine q07 (N := 5) rfl ?_); refine q1u rfl (N := 5) rfl (cs := #[.int .i64 s0, .int .i64 s1, .int .i64 s2, .int .i64 s3]) (t := 52) zh ?_; intro gs ws_ SK GS SS; obtain ⟨hs0, hs1, hs2, hs3, -, -, -, -⟩ := bk4 SK.out))
    repeat (go_quiet (fail); try go_wp2)
    go_ret
    exact ⟨(congrArg (fun b => Ending.returned (Value.string b)) (lf_both _).symm), by repeat (first | exact SS.out | apply bA | apply bN | apply bD)⟩
 ·cases h
def cutT (k : Nat) (l0 : List S43) (q : Bool) (s0 s2 c : Int) : Option Bool := (span_ranger_within.f k l0 q s0 c).bind fun a => if a = true then some true else span_ranger_within.f k l0 q s2 c
def cutB (k : Nat) (l0 : List S43) (q : Bool) (s0 s1 s2 s3 n i : Int) : Option Bool := (span_ranger_order.f k l0 q s0 s1 n i).bind fun a => if a ≤ 0 then (span_ranger_order.f k l0 q n (wrap64 (i + 1)) s2 s3).bind fun b => some (decide (b ≤ 0)) else some false
def cutL : Nat → List S43 → Bool → Int → Int → Int → Int → Int → Int → List S87 → Option (List S87)
 | 0, _, _, _, _, _, _, _, _, _ => none
 | k + 1, l0, q, s0, s1, s2, s3, n, i, lo => if i < ((q00 l0 n).f5.length : Int) then (if 0 ≤ i then (if 0 ≤ (rd (q00 l0 n).f5 i) then (if (rd (q00 l0 n).f5 i) < (l0.length : Int) then ((cutT k l0 q s0 s2 (rd (q00 l0 n).f5 i)).bind fun b =>
  if b = true ∧ ((q00 l0 (rd (q00 l0 n).f5 i)).f0 = 3 ∨ (q00 l0 (rd (q00 l0 n).f5 i)).f0 = 4) then ((span_left.f (q00 l0 (rd (q00 l0 n).f5 i)).f3 (rd (q00 l0 n).f5 i) s0 s1 s2 s3).bind fun t => if t.toList = (q00 l0 (rd (q00 l0 n).f5 i)).f3.toList then cutL k l0 q s0 s1 s2 s3 n (wrap64 (i + 1)) lo else (if lo.length < 879609302220 then cutL k l0 q s0 s1 s2 s3 n (wrap64 (i + 1)) (lo ++ [(⟨3, (rd (q00 l0 n).f5 i), 0, 0, (⟨#[]⟩ : ByteArray), t, (⟨0, (⟨#[]⟩ : ByteArray), ([] : List (S122)), (⟨#[]⟩ : ByteArray), 0, ([] : List Int)⟩ : S43)⟩ : S87)]) else none))
  else if b = true then (cutL k l0 q s0 s1 s2 s3 (rd (q00 l0 n).f5 i) 0 lo).bind fun o => cutL k l0 q s0 s1 s2 s3 n (wrap64 (i + 1)) o
  else (cutB k l0 q s0 s1 s2 s3 n i).bind fun z => if z = true then (if lo.length < 879609302220 then cutL k l0 q s0 s1 s2 s3 n (wrap64 (i + 1)) (lo ++ [(⟨6, (rd (q00 l0 n).f5 i), 0, 0, (⟨#[]⟩ : ByteArray), (⟨#[]⟩ : ByteArray), (⟨0, (⟨#[]⟩ : ByteArray), ([] : List (S122)), (⟨#[]⟩ : ByteArray), 0, ([] : List Int)⟩ : S43)⟩ : S87)]) else none) else cutL k l0 q s0 s1 s2 s3 n (wrap64 (i + 1)) lo) else none) else none) else none) else some lo
def span_ranger_cut.f (k : Nat) (l0 : List S43) (q : Bool) (n s0 s1 s2 s3 : Int) (lo : List S87) : Option (List S87) := if 0 ≤ n ∧ n < (l0.length : Int) then cutL k l0 q s0 s1 s2 s3 n 0 lo else none
set_option maxHeartbeats 16000000 in
set_option maxRecDepth 100000 in
theorem span_ranger_cut.core (k : Nat) : ∀ (A0 : Option Addr) (c0 : Nat) (l0 : List S43) (q : Bool) (n s0 s1 s2 s3 : Int) (v : Value) (lo r : List S87) (w0 w : World) (hB : Below w0.heap.size w0 w) (hr : Kd.C k43 w0 A0 l0.length l0) (hc : l0.length ≤ c0) (ho : Kd.S k87 87 w w0.heap.size (fun _ => True) v lo) (h0 : 0 ≤ n) (h1 : n < (l0.length : Int)) (h : cutL k l0 q s0 s1 s2 s3 n 0 lo = some r),
 Calls Tryd.prog 83 #[.agg #[.slice A0 l0.length c0, .bool q], .int .i64 n, .agg #[.int .i64 s0, .int .i64 s1, .int .i64 s2, .int .i64 s3], v] w fun e w' => ∃ v' : Value, e = .returned v' ∧ Kd.S k87 87 w' w0.heap.size (fun _ => True) v' r ∧ Below w0.heap.size w0 w' ∧ q1b 87 w w' := by
 induction k using Nat.strongRecOn with
 | _ k ih =>
 intro A0 c0 l0 q n s0 s1 s2 s3 v lo r w0 w hB hr hc ho h0 h1 h
 have hu24 := Tryd.underlying24
 have hu124 := Tryd.underlying124
 have hu43 := Tryd.underlying43
 have hu52 := Tryd.underlying52
 have hu50 := Tryd.underlying50
 have hu54 := Tryd.underlying54
 have hu87 := Tryd.underlying87
 have IH := aS ih
 have HC := aS hr
 have HL := aS hc
 have HS := aS ho
 have HB := aS hB
 have H2 := aS h
 obtain ⟨ad, A2, c2, A5, c5, e_, x0, x1, x2, x3, x4, x5, l2, C2, l5, C5⟩ := at_T43 HC.out n h0 h1
 subst e_
 have HC5 := aS C5
 clear ih hr hc ho hB h x0 x1 x2 x3 x4 l2 C2 l5 C5
 have p0 := eq_true h0
 have p1 := eq_true h1
 clear h0 h1
 go_enter Tryd.func83, Tryd.ntmps83
 go_upto_region 1 with (first | ((with_reducible refine q07 (N := 4) rfl ?_); refine q1u rfl (N := 4) rfl (cs := #[.slice (some ad) l0.length c0, .bool q]) (t := 124) zh ?_; intro gr wr_ RK GR RS) | ((with_reducible refine q07 (N := 6) rfl ?_); refine q1u rfl (N := 6) rfl (cs := #[.int .i64 s0, .int .i64 s1, .int .i64 s2, .int .i64 s3]) (t := 52) zh ?_; intro gs ws_ SK GS SS))
 have n_RK := aS (q01 RK.out SS.out)
 have n_HS := aS (Kd.S_below (Kd.S_below HS.out RS.out) SS.out)
 have KP := aS (q1b.step (q1b.step (q1b.refl 87 w) RS.out) SS.out)
 have n_HB := aS (q02 (q02 HB.out RS.out) SS.out)
 clear RK HS HB RS GR SS GS
 have RK := n_RK
 have HS := n_HS
 have HB := n_HB
 clear n_RK n_HS n_HB
 obtain ⟨hr0, hr1, -, -⟩ := bk2 RK.out; obtain ⟨hs0, hs1, hs2, hs3, -, -, -, -⟩ := bk4 SK.out
 replace x5 := (HB.out.cell (World.block_lt_of_cell? _ _ x5)).trans x5
 go_wp2
 go_loopg [3, 22] k (fun kq v3 v22 w' => ∃ (lo : List S87) (i : Int), v22 = .int .i64 i ∧ Aside0 (cutL kq l0 q s0 s1 s2 s3 n i lo = some r) ∧ Aside0 (Kd.S k87 87 w' w0.heap.size (fun _ => True) v3 lo) ∧ Aside0 (w'.heap[gr]? = some (.cells #[.slice (some ad) l0.length c0, .bool q] 124 (0, 0))) ∧ Aside0 (w'.heap[gs]? = some (.cells #[.int .i64 s0, .int .i64 s1, .int .i64 s2, .int .i64 s3] 52 (0, 0))) ∧ Aside0 (Below w0.heap.size w0 w') ∧ Aside0 (q1b 87 w w') ∧ Aside0 (kq ≤ k))
 case atStart => exact ⟨lo, 0, rfl, H2, HS, RK, SK, HB, KP, ⟨Nat.le_refl _⟩⟩
 case round =>
  clear H2 HS RK SK HB KP hr0 hr1 hs0 hs1 hs2 hs3 x5
  obtain ⟨lo, i, rfl, HA, HS, RK, SK, HB, KP, HK⟩ := hrel
  cases gk with
  | zero => exact absurd HA.out (by simp [cutL])
  | succ k1 =>
   have H := HA.out
   clear HA
   rw [cutL] at H
   by_cases c10 : i < ((q00 l0 n).f5.length : Int)
   ·rw [if_pos c10] at H
    refine iGq H ?_
    clear H
    intro c11 H
    refine iGq H ?_
    clear H
    intro c12 H
    refine iGq H ?_
    clear H
    intro c13 H
    obtain ⟨b, hb, H⟩ := Option.bind_eq_some_iff.1 H
    obtain ⟨a, ha, hb⟩ := Option.bind_eq_some_iff.1 hb
    obtain ⟨ad5, e_, y0⟩ := Kd.at_int HC5.out i c11 c10
    subst e_
    obtain ⟨ad2, A2, c2, A5, c5, e_, z0, z1, z2, z3, z4, z5, l2, C2, l5, C5⟩ := at_T43 HC.out (rd (q00 l0 n).f5 i) c12 c13
    cases e_
    clear l2 C2 l5 C5
    replace y0 := (HB.out.cell (World.block_lt_of_cell? _ _ y0)).trans y0
    replace z0 := (HB.out.cell (World.block_lt_of_cell? _ _ z0)).trans z0
    replace z1 := (HB.out.cell (World.block_lt_of_cell? _ _ z1)).trans z1
    replace z2 := (HB.out.cell (World.block_lt_of_cell? _ _ z2)).trans z2
    replace z3 := (HB.out.cell (World.block_lt_of_cell? _ _ z3)).trans z3
    replace z4 := (HB.out.cell (World.block_lt_of_cell? _ _ z4)).trans z4
    replace z5 := (HB.out.cell (World.block_lt_of_cell? _ _ z5)).trans z5
    have c10b : decide (i < ((q00 l0 n).f5.length : Int)) = true := decide_eq_true c10
    have p2 := eq_true c10
    have p3 := eq_true c11
    have p4 := eq_true c12
    have p5 := eq_true c13
    have H2 := aS H
    have HT1 := aS ha
    have HT2 := aS hb
    clear c10 c11 c12 c13 H ha hb
    obtain ⟨hr0, hr1, -, -⟩ := bk2 RK.out; obtain ⟨hs0, hs1, hs2, hs3, -, -, -, -⟩ := bk4 SK.out
    go_upto_region 4 with (fail)
    go_upto_region 5 with (first | ((with_reducible refine q07 (N := 11) rfl ?_); refine q1u rfl (N := 11) rfl (cs := #[.int .i64 0, .string (⟨#[]⟩ : ByteArray), .slice none 0 0, .string (⟨#[]⟩ : ByteArray), .int .i64 0, .slice none 0 0]) (t := 43) zh ?_; intro ga wa AK GA AS; obtain ⟨hv0, hv1, hv2, hv3, hv4, hv5, -, -, -, -, -, -⟩ := bk6 AK.out) | (refine wpList_store_mid (by rfl) 43 (.tmp 11) (.tmp 32) (by rfl) ga 0 #[.int .i64 (q00 l0 (rd (q00 l0 n).f5 i)).f0, .string (q00 l0 (rd (q00 l0 n).f5 i)).f1, .slice A2 (q00 l0 (rd (q00 l0 n).f5 i)).f2.length c2, .string (q00 l0 (rd (q00 l0 n).f5 i)).f3, .int .i64 (q00 l0 (rd (q00 l0 n).f5 i)).f4, .slice A5 (q00 l0 (rd (q00 l0 n).f5 i)).f5.length c5] ?hx ?hy ?hT ?hI ?h1 ?_; go_must ((case hx => rfl); (case hy => rfl); (case hT => exact there_len AK.out rfl); (case hI => kernel_rfl); (case h1 => first | rfl | (simp [Value.oneCell']; done) | (simp; done) | decide))))
    have hb := (q1o [.int .i64 (q00 l0 (rd (q00 l0 n).f5 i)).f0, .string (q00 l0 (rd (q00 l0 n).f5 i)).f1, .slice A2 (q00 l0 (rd (q00 l0 n).f5 i)).f2.length c2, .string (q00 l0 (rd (q00 l0 n).f5 i)).f3, .int .i64 (q00 l0 (rd (q00 l0 n).f5 i)).f4, .slice A5 (q00 l0 (rd (q00 l0 n).f5 i)).f5.length c5] AS.out GA.out AK.out rfl).1
    have n_AK := aS (q1o [.int .i64 (q00 l0 (rd (q00 l0 n).f5 i)).f0, .string (q00 l0 (rd (q00 l0 n).f5 i)).f1, .slice A2 (q00 l0 (rd (q00 l0 n).f5 i)).f2.length c2, .string (q00 l0 (rd (q00 l0 n).f5 i)).f3, .int .i64 (q00 l0 (rd (q00 l0 n).f5 i)).f4, .slice A5 (q00 l0 (rd (q00 l0 n).f5 i)).f5.length c5] AS.out GA.out AK.out rfl).2
    clear AK AS GA hv0 hv1 hv2 hv3 hv4 hv5
    generalize (wa.setCells ga 0 [.int .i64 (q00 l0 (rd (q00 l0 n).f5 i)).f0, .string (q00 l0 (rd (q00 l0 n).f5 i)).f1, .slice A2 (q00 l0 (rd (q00 l0 n).f5 i)).f2.length c2, .string (q00 l0 (rd (q00 l0 n).f5 i)).f3, .int .i64 (q00 l0 (rd (q00 l0 n).f5 i)).f4, .slice A5 (q00 l0 (rd (q00 l0 n).f5 i)).f5.length c5]) = wb at hb n_AK ⊢
    have n_HS := aS (Kd.S_below HS.out hb); have n_RK := aS (q01 RK.out hb); have n_SK := aS (q01 SK.out hb); have n_HB := aS (q02 HB.out hb); have n_KP := aS (q1b.step KP.out hb); clear hr0 hr1 hs0 hs1 hs2 hs3; clear HS RK SK HB KP hb; have HS := n_HS; have RK := n_RK; have SK := n_SK; have HB := n_HB; have KP := n_KP; clear n_HS n_RK n_SK n_HB n_KP; obtain ⟨hr0, hr1, -, -⟩ := bk2 RK.out; obtain ⟨hs0, hs1, hs2, hs3, -, -, -, -⟩ := bk4 SK.out
    have AK := n_AK
    clear n_AK z0 z1 z2 z3 z4 z5 y0
    obtain ⟨ha0, ha1, ha2, ha3, ha4, ha5, -, -, -, -, -, -⟩ := bk6 AK.out
    have HH := H2.out
    clear H2
    have HE := HT2.out
    clear HT2
    by_cases cT : b = true ∧ ((q00 l0 (rd (q00 l0 n).f5 i)).f0 = 3 ∨ (q00 l0 (rd (q00 l0 n).f5 i)).f0 = 4)
    ·rw [if_pos cT] at HH
     obtain ⟨rfl, cK⟩ := cT
     obtain ⟨t, ht, HH⟩ := Option.bind_eq_some_iff.1 HH
     have HT := aS ht
     have H2 := aS HH
     clear ht HH
     rcases (show a = true ∨ (a = false ∧ span_ranger_within.f k1 l0 q s2 (rd (q00 l0 n).f5 i) = some true) from by
      cases a
      ·exact .inr ⟨rfl, HE⟩
      ·exact .inl rfl) with rfl | ⟨rfl, hb⟩
     all_goals clear HE
     all_goals have HA1 := HT1
     all_goals clear HT1
     all_goals (try have HB1 := aS hb)
     all_goals (try clear hb)
     all_goals (rcases (show (q00 l0 (rd (q00 l0 n).f5 i)).f0 = 3 ∨ ((q00 l0 (rd (q00 l0 n).f5 i)).f0 ≠ 3 ∧ (q00 l0 (rd (q00 l0 n).f5 i)).f0 = 4) from by omega) with z_ | ⟨y_, z_⟩)
     all_goals clear cK
     all_goals (first | (have k3 : ((q00 l0 (rd (q00 l0 n).f5 i)).f0 == 3) = false := beq_eq_false_iff_ne.mpr y_; have k4 : ((q00 l0 (rd (q00 l0 n).f5 i)).f0 == 4) = true := beq_iff_eq.mpr z_; clear y_) | (have k3 : ((q00 l0 (rd (q00 l0 n).f5 i)).f0 == 3) = true := beq_iff_eq.mpr z_))
     all_goals clear z_
     all_goals (go_upto_region 6 with (first | (go_at_call 123; (with_reducible refine (span_ranger_within.calls k1 (some ad) c0 l0 q s0 (rd (q00 l0 n).f5 i) _ _ (Kd.C_below HC.out HB.out) HL.out HA1.out).mono ?_); rintro e w_ ⟨rfl, hb⟩; have n_HS := aS (Kd.S_below HS.out hb); have n_RK := aS (q01 RK.out hb); have n_SK := aS (q01 SK.out hb); have n_HB := aS (q02 HB.out hb); have n_KP := aS (q1b.step KP.out hb); have n_AK := aS (q01 AK.out hb); clear hr0 hr1 hs0 hs1 hs2 hs3; clear ha0 ha1 ha2 ha3 ha4 ha5; clear HS RK SK HB KP AK hb; have HS := n_HS; have RK := n_RK; have SK := n_SK; have HB := n_HB; have KP := n_KP; have AK := n_AK; clear n_HS n_RK n_SK n_HB n_KP n_AK; obtain ⟨hr0, hr1, -, -⟩ := bk2 RK.out; obtain ⟨hs0, hs1, hs2, hs3, -, -, -, -⟩ := bk4 SK.out; obtain ⟨ha0, ha1, ha2, ha3, ha4, ha5, -, -, -, -, -, -⟩ := bk6 AK.out) | (go_at_call 123; (with_reducible refine (span_ranger_within.calls k1 (some ad) c0 l0 q s2 (rd (q00 l0 n).f5 i) _ _ (Kd.C_below HC.out HB.out) HL.out HB1.out).mono ?_); rintro e w_ ⟨rfl, hb⟩; have n_HS := aS (Kd.S_below HS.out hb); have n_RK := aS (q01 RK.out hb); have n_SK := aS (q01 SK.out hb); have n_HB := aS (q02 HB.out hb); have n_KP := aS (q1b.step KP.out hb); have n_AK := aS (q01 AK.out hb); clear hr0 hr1 hs0 hs1 hs2 hs3; clear ha0 ha1 ha2 ha3 ha4 ha5; clear HS RK SK HB KP AK hb; have HS := n_HS; have RK := n_RK; have SK := n_SK; have HB := n_HB; have KP := n_KP; have AK := n_AK; clear n_HS n_RK n_SK n_HB n_KP n_AK; obtain ⟨hr0, hr1, -, -⟩ := bk2 RK.out; obtain ⟨hs0, hs1, hs2, hs3, -, -, -, -⟩ := bk4 SK.out; obtain ⟨ha0, ha1, ha2, ha3, ha4, ha5, -, -, -, -, -, -⟩ := bk6 AK.out)))
     all_goals (go_upto_region 7 with (fail))
     all_goals (go_upto_region 8 with ((go_at_call 124; (with_reducible refine (span_left.calls (q00 l0 (rd (q00 l0 n).f5 i)).f3 (rd (q00 l0 n).f5 i) s0 s1 s2 s3 _ _ HT.out).mono ?_); rintro e w_ ⟨rfl, hb⟩; have n_HS := aS (Kd.S_below HS.out hb); have n_RK := aS (q01 RK.out hb); have n_SK := aS (q01 SK.out hb); have n_HB := aS (q02 HB.out hb); have n_KP := aS (q1b.step KP.out hb); have n_AK := aS (q01 AK.out hb); clear hr0 hr1 hs0 hs1 hs2 hs3; clear ha0 ha1 ha2 ha3 ha4 ha5; clear HS RK SK HB KP AK hb; have HS := n_HS; have RK := n_RK; have SK := n_SK; have HB := n_HB; have KP := n_KP; have AK := n_AK; clear n_HS n_RK n_SK n_HB n_KP n_AK; obtain ⟨hr0, hr1, -, -⟩ := bk2 RK.out; obtain ⟨hs0, hs1, hs2, hs3, -, -, -, -⟩ := bk4 SK.out; obtain ⟨ha0, ha1, ha2, ha3, ha4, ha5, -, -, -, -, -, -⟩ := bk6 AK.out)))
     all_goals have HH := H2.out
     all_goals clear H2
     all_goals (
      by_cases ce : t.toList = (q00 l0 (rd (q00 l0 n).f5 i)).f3.toList
      ·rw [if_pos ce] at HH
       have ceb : (t.toList == (q00 l0 (rd (q00 l0 n).f5 i)).f3.toList) = true := beq_iff_eq.mpr ce
       have H2 := HH
       clear HH ce
       go_wp2
       go_roundg k1
       case measure => have := HK.out; omega
       case rel => exact ⟨lo, wrap64 (i + 1), rfl, ⟨H2⟩, HS, RK, SK, HB, KP, ⟨by have := HK.out; omega⟩⟩
      ·rw [if_neg ce] at HH
       have ceb : (t.toList == (q00 l0 (rd (q00 l0 n).f5 i)).f3.toList) = false := beq_eq_false_iff_ne.mpr ce
       refine iGq HH ?_
       clear HH ce
       intro lm H2
       have LM := aS lm
       clear lm
       go_wp2_with (((with_reducible refine q17 (b := .append) (xs := #[.tmp 68, .tmp 72]) rfl ?_); at_builtin; go_must (refine Kd.S_append k87 (w0 := w0) w0.heap.size rfl (.tmp 68) (.tmp 72) 54 87 (.agg #[(.int .i64 0), (.int .i64 0), (.int .i64 0), (.int .i64 0), (.string ⟨#[]⟩), (.string ⟨#[]⟩), (.int .i64 0), (.string ⟨#[]⟩), (.slice none 0 0), (.string ⟨#[]⟩), (.int .i64 0), (.slice none 0 0)]) 160 rfl Tryd.underlying54 info87 rfl (by decide) (by omega) u3 lo (⟨3, (rd (q00 l0 n).f5 i), 0, 0, (⟨#[]⟩ : ByteArray), t, (⟨0, (⟨#[]⟩ : ByteArray), ([] : List (S122)), (⟨#[]⟩ : ByteArray), 0, ([] : List Int)⟩ : S43)⟩ : S87) [.int .i64 3, .int .i64 (rd (q00 l0 n).f5 i), .int .i64 0, .int .i64 0, .string (⟨#[]⟩ : ByteArray), .string t, .int .i64 0, .string (⟨#[]⟩ : ByteArray), .slice none 0 0, .string (⟨#[]⟩ : ByteArray), .int .i64 0, .slice none 0 0] (fun _ => True) (fun _ => False) rfl rfl ?aP (fun k_ hk_ => hk_.elim) ?aF ?aO ?aB ?aS ?aL ?_; (case aP => exact k87_mkM _ _ _ (⟨3, (rd (q00 l0 n).f5 i), 0, 0, (⟨#[]⟩ : ByteArray), t, (⟨0, (⟨#[]⟩ : ByteArray), ([] : List (S122)), (⟨#[]⟩ : ByteArray), 0, ([] : List Int)⟩ : S43)⟩ : S87) (Kd.R_nil _ _ _ _ _) (Kd.R_nil _ _ _ _ _)); (case aB => exact (z7 HB.out)); (case aF => exact fun k_ hk => trivial); (case aO => exact (by (with_reducible repeat (first | apply sA | apply sN | apply sD)); exact Kd.S_mono HS.out (fun k_ hk => ⟨hk, fun e_ => e_⟩))); (case aS => exact (q06 (z7 HB.out))); (case aL => have := LM.out; omega); intro v2 w_ ho hb hg hat; have n_KP := aS (q1b.grown (show q1b 87 w _ from (by (with_reducible repeat (first | exact KP.out | apply kpA | apply kpN | apply kpD)))) (Kd.S_typed (zg HS.out)) hg); have n_RK := aS (q0q (za RK.out) hg (Kd.S_ne HS.out RK.out (by decide))); have n_SK := aS (q0q (za SK.out) hg (Kd.S_ne HS.out SK.out (by decide))); have n_HB := aS hb; have n_HS := aS ho; clear HS RK SK HB KP hr0 hr1 hs0 hs1 hs2 hs3 ha0 ha1 ha2 ha3 ha4 ha5 ho hb hg hat; have HS := n_HS; have RK := n_RK; have SK := n_SK; have HB := n_HB; have KP := n_KP; clear n_HS n_RK n_SK n_HB n_KP)))
       go_roundg k1
       case measure => have := HK.out; omega
       case rel => exact ⟨_, wrap64 (i + 1), rfl, ⟨H2⟩, HS, RK, SK, HB, KP, ⟨by have := HK.out; omega⟩⟩)
    ·rw [if_neg cT] at HH
     by_cases cb : b = true
     ·rw [if_pos cb] at HH
      subst cb
      have k3 : ((q00 l0 (rd (q00 l0 n).f5 i)).f0 == 3) = false := beq_eq_false_iff_ne.mpr fun e_ => cT ⟨rfl, .inl e_⟩
      have k4 : ((q00 l0 (rd (q00 l0 n).f5 i)).f0 == 4) = false := beq_eq_false_iff_ne.mpr fun e_ => cT ⟨rfl, .inr e_⟩
      obtain ⟨o, ho, HH⟩ := Option.bind_eq_some_iff.1 HH
      have HO := aS ho
      have H2 := aS HH
      clear ho HH cT
      rcases (show a = true ∨ (a = false ∧ span_ranger_within.f k1 l0 q s2 (rd (q00 l0 n).f5 i) = some true) from by
       cases a
       ·exact .inr ⟨rfl, HE⟩
       ·exact .inl rfl) with rfl | ⟨rfl, hb⟩
      all_goals clear HE
      all_goals have HA1 := HT1
      all_goals clear HT1
      all_goals (try have HB1 := aS hb)
      all_goals (try clear hb)
      all_goals (go_upto_region 6 with (first | (go_at_call 123; (with_reducible refine (span_ranger_within.calls k1 (some ad) c0 l0 q s0 (rd (q00 l0 n).f5 i) _ _ (Kd.C_below HC.out HB.out) HL.out HA1.out).mono ?_); rintro e w_ ⟨rfl, hb⟩; have n_HS := aS (Kd.S_below HS.out hb); have n_RK := aS (q01 RK.out hb); have n_SK := aS (q01 SK.out hb); have n_HB := aS (q02 HB.out hb); have n_KP := aS (q1b.step KP.out hb); have n_AK := aS (q01 AK.out hb); clear hr0 hr1 hs0 hs1 hs2 hs3; clear ha0 ha1 ha2 ha3 ha4 ha5; clear HS RK SK HB KP AK hb; have HS := n_HS; have RK := n_RK; have SK := n_SK; have HB := n_HB; have KP := n_KP; have AK := n_AK; clear n_HS n_RK n_SK n_HB n_KP n_AK; obtain ⟨hr0, hr1, -, -⟩ := bk2 RK.out; obtain ⟨hs0, hs1, hs2, hs3, -, -, -, -⟩ := bk4 SK.out; obtain ⟨ha0, ha1, ha2, ha3, ha4, ha5, -, -, -, -, -, -⟩ := bk6 AK.out) | (go_at_call 123; (with_reducible refine (span_ranger_within.calls k1 (some ad) c0 l0 q s2 (rd (q00 l0 n).f5 i) _ _ (Kd.C_below HC.out HB.out) HL.out HB1.out).mono ?_); rintro e w_ ⟨rfl, hb⟩; have n_HS := aS (Kd.S_below HS.out hb); have n_RK := aS (q01 RK.out hb); have n_SK := aS (q01 SK.out hb); have n_HB := aS (q02 HB.out hb); have n_KP := aS (q1b.step KP.out hb); have n_AK := aS (q01 AK.out hb); clear hr0 hr1 hs0 hs1 hs2 hs3; clear ha0 ha1 ha2 ha3 ha4 ha5; clear HS RK SK HB KP AK hb; have HS := n_HS; have RK := n_RK; have SK := n_SK; have HB := n_HB; have KP := n_KP; have AK := n_AK; clear n_HS n_RK n_SK n_HB n_KP n_AK; obtain ⟨hr0, hr1, -, -⟩ := bk2 RK.out; obtain ⟨hs0, hs1, hs2, hs3, -, -, -, -⟩ := bk4 SK.out; obtain ⟨ha0, ha1, ha2, ha3, ha4, ha5, -, -, -, -, -, -⟩ := bk6 AK.out)))
      all_goals (go_upto_region 10 with (fail))
      all_goals (go_upto_region 11 with (fail))
      all_goals (go_upto_region 14 with (go_at_call 83; (with_reducible refine (IH.out k1 (by have := HK.out; omega) (some ad) c0 l0 q (rd (q00 l0 n).f5 i) s0 s1 s2 s3 u3 lo o w0 _ HB.out HC.out HL.out HS.out (of_eq_true p4) (of_eq_true p5) HO.out).mono ?_); rintro e w_ ⟨v2, rfl, hs_, hb_, hk_⟩; have n_RK := aS (hk_ _ _ _ (by decide) RK.out); have n_SK := aS (hk_ _ _ _ (by decide) SK.out); have n_KP := aS (q1b.trans KP.out hk_); clear HS RK SK HB KP AK hr0 hr1 hs0 hs1 hs2 hs3 ha0 ha1 ha2 ha3 ha4 ha5 hk_; have HS := aS hs_; have RK := n_RK; have SK := n_SK; have HB := aS hb_; have KP := n_KP; clear n_RK n_SK n_KP hs_ hb_))
      all_goals have HH := H2.out
      all_goals clear H2
      all_goals have H2 := HH
      all_goals clear HH
      all_goals (
       go_wp2
       go_roundg k1
       case measure => have := HK.out; omega
       case rel => exact ⟨o, wrap64 (i + 1), rfl, ⟨H2⟩, HS, RK, SK, HB, KP, ⟨by have := HK.out; omega⟩⟩)
     ·rw [if_neg cb] at HH
      obtain rfl := Bool.eq_false_iff.2 cb
      obtain ⟨z, hz, HH⟩ := Option.bind_eq_some_iff.1 HH
      have HZ := hz
      have H2 := aS HH
      clear hz HH cb cT
      rcases (show (a = false ∧ span_ranger_within.f k1 l0 q s2 (rd (q00 l0 n).f5 i) = some false) from by
       cases a
       ·exact ⟨rfl, HE⟩
       ·exact absurd (Option.some.inj (show some true = some false from HE)) (by decide)) with ⟨rfl, hb⟩
      clear HE
      have HA1 := HT1
      have HB1 := aS hb
      clear HT1 hb
      go_upto_region 6 with (first | (go_at_call 123; (with_reducible refine (span_ranger_within.calls k1 (some ad) c0 l0 q s0 (rd (q00 l0 n).f5 i) _ _ (Kd.C_below HC.out HB.out) HL.out HA1.out).mono ?_); rintro e w_ ⟨rfl, hb⟩; have n_HS := aS (Kd.S_below HS.out hb); have n_RK := aS (q01 RK.out hb); have n_SK := aS (q01 SK.out hb); have n_HB := aS (q02 HB.out hb); have n_KP := aS (q1b.step KP.out hb); have n_AK := aS (q01 AK.out hb); clear hr0 hr1 hs0 hs1 hs2 hs3; clear ha0 ha1 ha2 ha3 ha4 ha5; clear HS RK SK HB KP AK hb; have HS := n_HS; have RK := n_RK; have SK := n_SK; have HB := n_HB; have KP := n_KP; have AK := n_AK; clear n_HS n_RK n_SK n_HB n_KP n_AK; obtain ⟨hr0, hr1, -, -⟩ := bk2 RK.out; obtain ⟨hs0, hs1, hs2, hs3, -, -, -, -⟩ := bk4 SK.out; obtain ⟨ha0, ha1, ha2, ha3, ha4, ha5, -, -, -, -, -, -⟩ := bk6 AK.out) | (go_at_call 123; (with_reducible refine (span_ranger_within.calls k1 (some ad) c0 l0 q s2 (rd (q00 l0 n).f5 i) _ _ (Kd.C_below HC.out HB.out) HL.out HB1.out).mono ?_); rintro e w_ ⟨rfl, hb⟩; have n_HS := aS (Kd.S_below HS.out hb); have n_RK := aS (q01 RK.out hb); have n_SK := aS (q01 SK.out hb); have n_HB := aS (q02 HB.out hb); have n_KP := aS (q1b.step KP.out hb); have n_AK := aS (q01 AK.out hb); clear hr0 hr1 hs0 hs1 hs2 hs3; clear ha0 ha1 ha2 ha3 ha4 ha5; clear HS RK SK HB KP AK hb; have HS := n_HS; have RK := n_RK; have SK := n_SK; have HB := n_HB; have KP := n_KP; have AK := n_AK; clear n_HS n_RK n_SK n_HB n_KP n_AK; obtain ⟨hr0, hr1, -, -⟩ := bk2 RK.out; obtain ⟨hs0, hs1, hs2, hs3, -, -, -, -⟩ := bk4 SK.out; obtain ⟨ha0, ha1, ha2, ha3, ha4, ha5, -, -, -, -, -, -⟩ := bk6 AK.out))
      go_upto_region 10 with (fail)
      go_upto_region 12 with (fail)
      obtain ⟨a1, h1_, h2_⟩ := Option.bind_eq_some_iff.1 HZ
      have HO1 := aS h1_
      clear HZ h1_
      by_cases ca : a1 ≤ 0
      ·obtain ⟨a2, h3_, h4_⟩ := Option.bind_eq_some_iff.1 ((if_pos ca).symm.trans h2_)
       have HO2 := aS h3_
       obtain rfl := Option.some.inj h4_
       clear h2_ h3_ h4_
       have cab : decide (a1 ≤ 0) = true := decide_eq_true ca
       clear ca
       by_cases cc : a2 ≤ 0
       ·have ccb : decide (a2 ≤ 0) = true := decide_eq_true cc
        have HH := H2.out
        clear H2
        rw [if_pos ccb] at HH
        refine iGq HH ?_
        clear HH cc
        intro lm H2
        have LM := aS lm
        clear lm
        go_upto_region 13 with (first | (go_at_call 88; (with_reducible refine (span_ranger_order.calls k1 (some ad) c0 l0 q s0 s1 n i _ _ (Kd.C_below HC.out HB.out) HL.out HO1.out).mono ?_); rintro e w_ ⟨rfl, hb⟩; have n_HS := aS (Kd.S_below HS.out hb); have n_RK := aS (q01 RK.out hb); have n_SK := aS (q01 SK.out hb); have n_HB := aS (q02 HB.out hb); have n_KP := aS (q1b.step KP.out hb); have n_AK := aS (q01 AK.out hb); clear hr0 hr1 hs0 hs1 hs2 hs3; clear ha0 ha1 ha2 ha3 ha4 ha5; clear HS RK SK HB KP AK hb; have HS := n_HS; have RK := n_RK; have SK := n_SK; have HB := n_HB; have KP := n_KP; have AK := n_AK; clear n_HS n_RK n_SK n_HB n_KP n_AK; obtain ⟨hr0, hr1, -, -⟩ := bk2 RK.out; obtain ⟨hs0, hs1, hs2, hs3, -, -, -, -⟩ := bk4 SK.out; obtain ⟨ha0, ha1, ha2, ha3, ha4, ha5, -, -, -, -, -, -⟩ := bk6 AK.out) | (go_at_call 88; (with_reducible refine (span_ranger_order.calls k1 (some ad) c0 l0 q n (wrap64 (i + 1)) s2 s3 _ _ (Kd.C_below HC.out HB.out) HL.out HO2.out).mono ?_); rintro e w_ ⟨rfl, hb⟩; have n_HS := aS (Kd.S_below HS.out hb); have n_RK := aS (q01 RK.out hb); have n_SK := aS (q01 SK.out hb); have n_HB := aS (q02 HB.out hb); have n_KP := aS (q1b.step KP.out hb); have n_AK := aS (q01 AK.out hb); clear hr0 hr1 hs0 hs1 hs2 hs3; clear ha0 ha1 ha2 ha3 ha4 ha5; clear HS RK SK HB KP AK hb; have HS := n_HS; have RK := n_RK; have SK := n_SK; have HB := n_HB; have KP := n_KP; have AK := n_AK; clear n_HS n_RK n_SK n_HB n_KP n_AK; obtain ⟨hr0, hr1, -, -⟩ := bk2 RK.out; obtain ⟨hs0, hs1, hs2, hs3, -, -, -, -⟩ := bk4 SK.out; obtain ⟨ha0, ha1, ha2, ha3, ha4, ha5, -, -, -, -, -, -⟩ := bk6 AK.out))
        go_wp2_with (((with_reducible refine q17 (b := .append) (xs := #[.tmp 101, .tmp 104]) rfl ?_); at_builtin; go_must (refine Kd.S_append k87 (w0 := w0) w0.heap.size rfl (.tmp 101) (.tmp 104) 54 87 (.agg #[(.int .i64 0), (.int .i64 0), (.int .i64 0), (.int .i64 0), (.string ⟨#[]⟩), (.string ⟨#[]⟩), (.int .i64 0), (.string ⟨#[]⟩), (.slice none 0 0), (.string ⟨#[]⟩), (.int .i64 0), (.slice none 0 0)]) 160 rfl Tryd.underlying54 info87 rfl (by decide) (by omega) u3 lo (⟨6, (rd (q00 l0 n).f5 i), 0, 0, (⟨#[]⟩ : ByteArray), (⟨#[]⟩ : ByteArray), (⟨0, (⟨#[]⟩ : ByteArray), ([] : List (S122)), (⟨#[]⟩ : ByteArray), 0, ([] : List Int)⟩ : S43)⟩ : S87) [.int .i64 6, .int .i64 (rd (q00 l0 n).f5 i), .int .i64 0, .int .i64 0, .string (⟨#[]⟩ : ByteArray), .string (⟨#[]⟩ : ByteArray), .int .i64 0, .string (⟨#[]⟩ : ByteArray), .slice none 0 0, .string (⟨#[]⟩ : ByteArray), .int .i64 0, .slice none 0 0] (fun _ => True) (fun _ => False) rfl rfl ?aP (fun k_ hk_ => hk_.elim) ?aF ?aO ?aB ?aS ?aL ?_; (case aP => exact k87_mkM _ _ _ (⟨6, (rd (q00 l0 n).f5 i), 0, 0, (⟨#[]⟩ : ByteArray), (⟨#[]⟩ : ByteArray), (⟨0, (⟨#[]⟩ : ByteArray), ([] : List (S122)), (⟨#[]⟩ : ByteArray), 0, ([] : List Int)⟩ : S43)⟩ : S87) (Kd.R_nil _ _ _ _ _) (Kd.R_nil _ _ _ _ _)); (case aB => exact (z7 HB.out)); (case aF => exact fun k_ hk => trivial); (case aO => exact (by (with_reducible repeat (first | apply sA | apply sN | apply sD)); exact Kd.S_mono HS.out (fun k_ hk => ⟨hk, fun e_ => e_⟩))); (case aS => exact (q06 (z7 HB.out))); (case aL => have := LM.out; omega); intro v2 w_ ho hb hg hat; have n_KP := aS (q1b.grown (show q1b 87 w _ from (by (with_reducible repeat (first | exact KP.out | apply kpA | apply kpN | apply kpD)))) (Kd.S_typed (zg HS.out)) hg); have n_RK := aS (q0q (za RK.out) hg (Kd.S_ne HS.out RK.out (by decide))); have n_SK := aS (q0q (za SK.out) hg (Kd.S_ne HS.out SK.out (by decide))); have n_HB := aS hb; have n_HS := aS ho; clear HS RK SK HB KP hr0 hr1 hs0 hs1 hs2 hs3 ha0 ha1 ha2 ha3 ha4 ha5 ho hb hg hat; have HS := n_HS; have RK := n_RK; have SK := n_SK; have HB := n_HB; have KP := n_KP; clear n_HS n_RK n_SK n_HB n_KP)))
        go_roundg k1
        case measure => have := HK.out; omega
        case rel => exact ⟨_, wrap64 (i + 1), rfl, ⟨H2⟩, HS, RK, SK, HB, KP, ⟨by have := HK.out; omega⟩⟩
       ·have ccb : decide (a2 ≤ 0) = false := decide_eq_false cc
        have HH := H2.out
        clear H2
        rw [if_neg (by rw [ccb]; decide)] at HH
        have H2 := HH
        clear HH cc
        go_wp2_with (first | (go_at_call 88; (with_reducible refine (span_ranger_order.calls k1 (some ad) c0 l0 q s0 s1 n i _ _ (Kd.C_below HC.out HB.out) HL.out HO1.out).mono ?_); rintro e w_ ⟨rfl, hb⟩; have n_HS := aS (Kd.S_below HS.out hb); have n_RK := aS (q01 RK.out hb); have n_SK := aS (q01 SK.out hb); have n_HB := aS (q02 HB.out hb); have n_KP := aS (q1b.step KP.out hb); have n_AK := aS (q01 AK.out hb); clear hr0 hr1 hs0 hs1 hs2 hs3; clear ha0 ha1 ha2 ha3 ha4 ha5; clear HS RK SK HB KP AK hb; have HS := n_HS; have RK := n_RK; have SK := n_SK; have HB := n_HB; have KP := n_KP; have AK := n_AK; clear n_HS n_RK n_SK n_HB n_KP n_AK; obtain ⟨hr0, hr1, -, -⟩ := bk2 RK.out; obtain ⟨hs0, hs1, hs2, hs3, -, -, -, -⟩ := bk4 SK.out; obtain ⟨ha0, ha1, ha2, ha3, ha4, ha5, -, -, -, -, -, -⟩ := bk6 AK.out) | (go_at_call 88; (with_reducible refine (span_ranger_order.calls k1 (some ad) c0 l0 q n (wrap64 (i + 1)) s2 s3 _ _ (Kd.C_below HC.out HB.out) HL.out HO2.out).mono ?_); rintro e w_ ⟨rfl, hb⟩; have n_HS := aS (Kd.S_below HS.out hb); have n_RK := aS (q01 RK.out hb); have n_SK := aS (q01 SK.out hb); have n_HB := aS (q02 HB.out hb); have n_KP := aS (q1b.step KP.out hb); have n_AK := aS (q01 AK.out hb); clear hr0 hr1 hs0 hs1 hs2 hs3; clear ha0 ha1 ha2 ha3 ha4 ha5; clear HS RK SK HB KP AK hb; have HS := n_HS; have RK := n_RK; have SK := n_SK; have HB := n_HB; have KP := n_KP; have AK := n_AK; clear n_HS n_RK n_SK n_HB n_KP n_AK; obtain ⟨hr0, hr1, -, -⟩ := bk2 RK.out; obtain ⟨hs0, hs1, hs2, hs3, -, -, -, -⟩ := bk4 SK.out; obtain ⟨ha0, ha1, ha2, ha3, ha4, ha5, -, -, -, -, -, -⟩ := bk6 AK.out))
        go_roundg k1
        case measure => have := HK.out; omega
        case rel => exact ⟨lo, wrap64 (i + 1), rfl, ⟨H2⟩, HS, RK, SK, HB, KP, ⟨by have := HK.out; omega⟩⟩
      ·obtain rfl := Option.some.inj ((if_neg ca).symm.trans h2_)
       have cab : decide (a1 ≤ 0) = false := decide_eq_false ca
       have HH := H2.out
       clear H2 h2_
       rw [if_neg (by decide)] at HH
       have H2 := HH
       clear HH ca
       go_wp2_with ((go_at_call 88; (with_reducible refine (span_ranger_order.calls k1 (some ad) c0 l0 q s0 s1 n i _ _ (Kd.C_below HC.out HB.out) HL.out HO1.out).mono ?_); rintro e w_ ⟨rfl, hb⟩; have n_HS := aS (Kd.S_below HS.out hb); have n_RK := aS (q01 RK.out hb); have n_SK := aS (q01 SK.out hb); have n_HB := aS (q02 HB.out hb); have n_KP := aS (q1b.step KP.out hb); have n_AK := aS (q01 AK.out hb); clear hr0 hr1 hs0 hs1 hs2 hs3; clear ha0 ha1 ha2 ha3 ha4 ha5; clear HS RK SK HB KP AK hb; have HS := n_HS; have RK := n_RK; have SK := n_SK; have HB := n_HB; have KP := n_KP; have AK := n_AK; clear n_HS n_RK n_SK n_HB n_KP n_AK; obtain ⟨hr0, hr1, -, -⟩ := bk2 RK.out; obtain ⟨hs0, hs1, hs2, hs3, -, -, -, -⟩ := bk4 SK.out; obtain ⟨ha0, ha1, ha2, ha3, ha4, ha5, -, -, -, -, -, -⟩ := bk6 AK.out))
       go_roundg k1
       case measure => have := HK.out; omega
       case rel => exact ⟨lo, wrap64 (i + 1), rfl, ⟨H2⟩, HS, RK, SK, HB, KP, ⟨by have := HK.out; omega⟩⟩
   ·rw [if_neg c10] at H
    have c10b : decide (i < ((q00 l0 n).f5.length : Int)) = false := decide_eq_false c10
    obtain rfl := Option.some.inj H
    clear c10 H
    go_wp2
    go_ret
    exact ⟨_, rfl, HS.out, HB.out, KP.out⟩
theorem span_ranger_cut.calls (k : Nat) (A0 : Option Addr) (c0 : Nat) (l0 : List S43) (q : Bool) (n s0 s1 s2 s3 : Int) (v : Value) (lo r : List S87) (w0 w : World) (hB : Below w0.heap.size w0 w) (hr : Kd.C k43 w0 A0 l0.length l0) (hc : l0.length ≤ c0) (ho : Kd.S k87 87 w w0.heap.size (fun _ => True) v lo) (h : span_ranger_cut.f k l0 q n s0 s1 s2 s3 lo = some r) :
 Calls Tryd.prog 83 #[.agg #[.slice A0 l0.length c0, .bool q], .int .i64 n, .agg #[.int .i64 s0, .int .i64 s1, .int .i64 s2, .int .i64 s3], v] w fun e w' => ∃ v' : Value, e = .returned v' ∧ Kd.S k87 87 w' w0.heap.size (fun _ => True) v' r ∧ Below w0.heap.size w0 w' ∧ q1b 87 w w' := by
 refine iGq h fun h0 h => ?_
 exact span_ranger_cut.core k A0 c0 l0 q n s0 s1 s2 s3 v lo r w0 w hB hr hc ho h0.1 h0.2 h
theorem cutT.mono (l0 : List S43) (q : Bool) (s0 s2 c : Int) (k : Nat) : LeO (cutT k l0 q s0 s2 c) (cutT (k + 1) l0 q s0 s2 c) := LeO.bind (span_ranger_within.mono _ _ _ _ k) fun _ => LeO.ite (LeO.refl _) (span_ranger_within.mono _ _ _ _ k)
theorem cutB.mono (l0 : List S43) (q : Bool) (s0 s1 s2 s3 n i : Int) (k : Nat) : LeO (cutB k l0 q s0 s1 s2 s3 n i) (cutB (k + 1) l0 q s0 s1 s2 s3 n i) := LeO.bind (span_ranger_order.mono _ _ _ _ _ _ k) fun _ => LeO.ite (LeO.bind (span_ranger_order.mono _ _ _ _ _ _ k) fun _ => LeO.refl _) (LeO.refl _)
theorem cutL.mono (l0 : List S43) (q : Bool) (s0 s1 s2 s3 : Int) : ∀ (k : Nat) (n i : Int) (lo : List S87), LeO (cutL k l0 q s0 s1 s2 s3 n i lo) (cutL (k + 1) l0 q s0 s1 s2 s3 n i lo)
 | 0, _, _, _ => LeO.none _
 | k + 1, n, i, lo => by
  unfold cutL
  repeat' first | with_reducible first | apply cutL.mono l0 q s0 s1 s2 s3 k | apply cutT.mono | apply cutB.mono | exact LeO.refl _ | exact LeO.none _ | refine LeO.ite ?_ ?_ | refine LeO.bind ?_ (fun _ => ?_)
theorem span_ranger_cut.mono (l0 : List S43) (q : Bool) (n s0 s1 s2 s3 : Int) (lo : List S87) (k : Nat) : LeO (span_ranger_cut.f k l0 q n s0 s1 s2 s3 lo) (span_ranger_cut.f (k + 1) l0 q n s0 s1 s2 s3 lo) := LeO.ite (cutL.mono l0 q s0 s1 s2 s3 k n 0 lo) (LeO.refl _)
def span_Cut.f (k : Nat) (l0 : List S43) (q : Bool) (s0 s1 s2 s3 : Int) : Option (List S87 × Int) := (span_span.f k l0 q s0 s1 s2 s3).bind fun b => if b.2.2 ≠ 0 then some ([], b.2.2) else (span_ranger_cut.f k b.1 b.2.1 0 s0 s1 s2 s3 []).bind fun r => if 40 < r.length then some ([], 2) else some (r, 0)
set_option maxHeartbeats 8000000 in
set_option maxRecDepth 100000 in
theorem span_Cut.calls (k : Nat) (A0 : Option Addr) (c0 : Nat) (l0 : List S43) (q : Bool) (s0 s1 s2 s3 : Int) (r1 : List S87) (r2 : Int) (w : World) (hr0 : Kd.C k43 w A0 l0.length l0) (hc0 : l0.length ≤ c0) (h : span_Cut.f k l0 q s0 s1 s2 s3 = some (r1, r2)) :
 Calls Tryd.prog 32 #[.agg #[.slice A0 l0.length c0, .bool q], .agg #[.int .i64 s0, .int .i64 s1, .int .i64 s2, .int .i64 s3]] w fun e w' => ∃ v0_ : Value, e = .returned (.tuple #[v0_, .int .i64 r2]) ∧ Kd.S k87 87 w' w.heap.size (fun _ => True) v0_ r1 ∧ Below w.heap.size w w' := by
 have hu24 := Tryd.underlying24
 have hu52 := Tryd.underlying52
 have hu54 := Tryd.underlying54
 have hu124 := Tryd.underlying124
 have HC := aS hr0
 have HL := aS hc0
 clear hr0 hc0
 unfold span_Cut.f at h
 obtain ⟨⟨n1, n2, n3⟩, hr, h⟩ := Option.bind_eq_some_iff.1 h
 have HE := aS hr
 have H := aS h
 clear hr h
 go_enter Tryd.func32, Tryd.ntmps32
 go_upto_region 1 with (first | ((with_reducible refine q07 (N := 2) rfl ?_); refine q1u rfl (N := 2) rfl (cs := #[.slice A0 l0.length c0, .bool q]) (t := 24) zh ?_; intro gd wd DK GD DS) | ((with_reducible refine q07 (N := 3) rfl ?_); refine q1u rfl (N := 3) rfl (cs := #[.int .i64 s0, .int .i64 s1, .int .i64 s2, .int .i64 s3]) (t := 52) zh ?_; intro gs ws_ SK GS SS))
 have n_DK := aS (q01 DK.out SS.out)
 have HB := aS (q02 DS.out SS.out)
 clear DK DS GD SS GS
 have DK := n_DK
 clear n_DK
 obtain ⟨hd0, hd1, -, -⟩ := bk2 DK.out; obtain ⟨hs0, hs1, hs2, hs3, -, -, -, -⟩ := bk4 SK.out
 go_upto_region 2 with (first | (go_at_call 82; (with_reducible refine (span_span.calls k (fun k_ => k_ < w.heap.size) A0 c0 l0 q s0 s1 s2 s3 n1 n2 n3 _ (Kd.V_mk HL.out (Kd.F_below (Kd.C_F k43_heap HC.out) HB.out)) HE.out).mono ?_); rintro e w8 ⟨v8, rfl, ho0, hb⟩; obtain ⟨A8, c8, rfl⟩ := Kd.V_slice ho0; have HV := aS (Kd.V_reads' ho0).2; have n_SK := aS (q01 SK.out hb); have n_HB := aS (q02 HB.out hb); clear ho0 hb DK SK HB hd0 hd1 hs0 hs1 hs2 hs3; have SK := n_SK; have HB := n_HB; clear n_SK n_HB; obtain ⟨hs0, hs1, hs2, hs3, -, -, -, -⟩ := bk4 SK.out) | ((with_reducible refine q07 (N := 6) rfl ?_); refine q1u rfl (N := 6) rfl (cs := #[.slice none 0 0, .bool false]) (t := 124) zh ?_; intro ga wa AK GA AS; obtain ⟨hv0, hv1, -, -⟩ := bk2 AK.out) | (refine wpList_store_mid (by rfl) 124 (.tmp 6) (.tmp 13) (by rfl) ga 0 #[.slice A8 n1.length c8, .bool n2] ?hx ?hy ?hT ?hI ?h1 ?_; go_must ((case hx => rfl); (case hy => rfl); (case hT => exact there_len AK.out rfl); (case hI => kernel_rfl); (case h1 => first | rfl | (simp [Value.oneCell']; done) | (simp; done) | decide)); have hb := (q1o [.slice A8 n1.length c8, .bool n2] AS.out GA.out AK.out rfl).1; have n_AK := aS (q1o [.slice A8 n1.length c8, .bool n2] AS.out GA.out AK.out rfl).2; clear AK AS GA hv0 hv1; generalize (wa.setCells ga 0 [.slice A8 n1.length c8, .bool n2]) = wb at hb n_AK ⊢; have n_SK := aS (q01 SK.out hb); have n_HB := aS (q02 HB.out hb); have n_HV := aS (Kd.C_below HV.out.2 hb); have HVL := aS HV.out.1; clear SK HB HV hb hs0 hs1 hs2 hs3; have SK := n_SK; have HB := n_HB; have HV := n_HV; have AK := n_AK; clear n_SK n_HB n_HV n_AK; obtain ⟨hs0, hs1, hs2, hs3, -, -, -, -⟩ := bk4 SK.out; obtain ⟨ha0, ha1, -, -⟩ := bk2 AK.out))
 have HH := H.out
 clear H
 by_cases z : n3 ≠ 0
 ·have h2 := (if_pos (show (n1, n2, n3).2.2 ≠ 0 from z)).symm.trans HH
  clear HH
  simp only [Option.some.injEq, Prod.mk.injEq] at h2
  obtain ⟨rfl, rfl⟩ := h2
  have z1 : (n3 != 0) = true := bne_iff_ne.mpr z
  clear z
  go_wp2
  go_ret2
  exact ⟨_, rfl, Kd.S_nil _ _ _ _ _, HB.out⟩
 ·have h2 := (if_neg (show ¬ (n1, n2, n3).2.2 ≠ 0 from z)).symm.trans HH
  clear HH
  obtain rfl : n3 = 0 := Classical.not_not.1 z
  clear z
  obtain ⟨r, hr, h2⟩ := Option.bind_eq_some_iff.1 h2
  have HR := aS (show span_ranger_cut.f k n1 n2 0 s0 s1 s2 s3 [] = some r from hr)
  clear hr
  have H := aS h2
  clear h2
  go_upto_region 5 with (go_at_call 83; (with_reducible refine (span_ranger_cut.calls k A8 c8 n1 n2 0 s0 s1 s2 s3 (.slice none 0 0) [] r wb wb (Below.refl _ _) HV.out HVL.out (Kd.S_nil _ _ _ _ _) HR.out).mono ?_); rintro e w9 ⟨v9, rfl, hs9, hb9, hk9⟩; have HS := aS (Kd.S_lower hs9 (Below.size HB.out)); have n_HB := aS (q02 HB.out hb9); clear HV HB SK AK hs9 hb9 hk9 hs0 hs1 hs2 hs3 ha0 ha1; have HB := n_HB; clear n_HB)
  obtain ⟨A9, c9, rfl⟩ := Kd.S_slice HS.out
  have HH := H.out
  clear H
  by_cases c40 : 40 < r.length
  ·rw [if_pos c40] at HH
   have cb : decide ((r.length : Int) > 40) = true := decide_eq_true (by omega)
   clear c40
   simp only [Option.some.injEq, Prod.mk.injEq] at HH
   obtain ⟨rfl, rfl⟩ := HH
   go_wp2
   go_ret2
   exact ⟨_, rfl, Kd.S_nil _ _ _ _ _, HB.out⟩
  ·rw [if_neg c40] at HH
   have cb : decide ((r.length : Int) > 40) = false := decide_eq_false (by omega)
   clear c40
   simp only [Option.some.injEq, Prod.mk.injEq] at HH
   obtain ⟨rfl, rfl⟩ := HH
   go_wp2
   go_ret2
   exact ⟨_, rfl, HS.out, HB.out⟩
theorem span_Cut.mono (l0 : List S43) (q : Bool) (s0 s1 s2 s3 : Int) (k : Nat) : LeO (span_Cut.f k l0 q s0 s1 s2 s3) (span_Cut.f (k + 1) l0 q s0 s1 s2 s3) := by
 unfold span_Cut.f
 repeat' first | with_reducible first | apply span_span.mono | apply span_ranger_cut.mono | exact LeO.refl _ | exact LeO.none _ | refine LeO.ite ?_ ?_ | refine LeO.bind ?_ (fun _ => ?_)
theorem at_T43_kept {w W1 : World} {S : Nat → Prop} {A : Option Addr} {n : Nat} {xs : List S43} (h : ∀ W', Kept w W' S → Kd.C k43 W' A n xs) (hk1 : Kept w W1 S) (i : Int) (h0 : 0 ≤ i) (h1 : i < n) : ∃ ad A2 c2 A5 c5, A = some ad ∧ W1.cell? (ad.add (i.toNat * 6)) = some (.int .i64 (q00 xs i).f0) ∧ W1.cell? ⟨(ad.add (i.toNat * 6)).block, (ad.add (i.toNat * 6)).off + 1, none⟩ = some (.string (q00 xs i).f1) ∧ W1.cell? ⟨(ad.add (i.toNat * 6)).block, (ad.add (i.toNat * 6)).off + 2, none⟩ = some (.slice A2 (q00 xs i).f2.length c2) ∧ W1.cell? ⟨(ad.add (i.toNat * 6)).block, (ad.add (i.toNat * 6)).off + 3, none⟩ = some (.string (q00 xs i).f3) ∧ W1.cell? ⟨(ad.add (i.toNat * 6)).block, (ad.add (i.toNat * 6)).off + 4, none⟩ = some (.int .i64 (q00 xs i).f4) ∧ W1.cell? ⟨(ad.add (i.toNat * 6)).block, (ad.add (i.toNat * 6)).off + 5, none⟩ = some (.slice A5 (q00 xs i).f5.length c5) ∧ (q00 xs i).f2.length ≤ c2 ∧ (∀ W', Kept w W' S → k122.C W' A2 (q00 xs i).f2.length (q00 xs i).f2) ∧ (q00 xs i).f5.length ≤ c5 ∧ (∀ W', Kept w W' S → (Kd.int .i64).C W' A5 (q00 xs i).f5.length (q00 xs i).f5) := by
 obtain ⟨ad, A2, c2, A5, c5, e, x0, x1, x2, x3, x4, x5, l2, _, l5, _⟩ := at_T43 (h W1 hk1) i h0 h1
 subst e
 have hn := Kd.foot_neS h (by omega) (by decide)
 have hlt := Kd.foot_ltS h (by omega) (by decide)
 have same : ∀ (W' : World), Kept w W' S → ∀ (a : Addr) (v : Value), a.block = ad.block → W1.cell? a = some v → W'.cell? a = some v := by
  intro W' hk a v ha hv
  unfold World.cell? at hv ⊢
  rw [ha] at hv ⊢
  rw [hk.2 _ hlt hn, ← hk1.2 _ hlt hn]
  exact hv
 refine ⟨ad, A2, c2, A5, c5, rfl, x0, x1, x2, x3, x4, x5, l2, fun W' hk => ?_, l5, fun W' hk => ?_⟩
 ·obtain ⟨ad', A2', c2', A5', c5', e, _, _, y2, _, _, _, _, g2, _, _⟩ := at_T43 (h W' hk) i h0 h1
  injection e with e
  subst e
  rw [same W' hk ⟨(ad.add (i.toNat * 6)).block, (ad.add (i.toNat * 6)).off + 2, none⟩ _ (q0p _ _) x2] at y2
  injection y2 with y2
  injection y2 with y2
  rw [y2]
  exact g2
 ·obtain ⟨ad', A2', c2', A5', c5', e, _, _, _, _, _, y5, _, _, _, g5⟩ := at_T43 (h W' hk) i h0 h1
  injection e with e
  subst e
  rw [same W' hk ⟨(ad.add (i.toNat * 6)).block, (ad.add (i.toNat * 6)).off + 5, none⟩ _ (q0p _ _) x5] at y5
  injection y5 with y5
  injection y5 with y5
  rw [y5]
  exact g5
mutual
def dom_walk.l0 : Nat → List Int → List Int → Int → Int → List (S43) → Bool → Option (List Int)
 | 0, _, _, _, _, _, _ => none
 | k + 1, x2, x18, x19, x20, x291000, x291001 => if x20 < x19 then (if 0 ≤ x20 then (if x20 < (x18.length : Int) then ((dom_walk.f k x291000 x291001 (rd x18 x20) x2).bind fun t296 => (dom_walk.l0 k t296 x18 x19 (wrap64 (x20 + 1)) x291000 x291001)) else (none)) else (none)) else (some x2)
def dom_walk.f : Nat → List (S43) → Bool → Int → List Int → Option (List Int)
 | 0, _, _, _, _ => none
 | k + 1, l0_0, a0_1, a1, l2 => if l2.length < 17592186044416 then (if 0 ≤ a1 then (if a1 < (l0_0.length : Int) then (dom_walk.l0 k (l2 ++ [a1]) ((q00 l0_0 a1).f5) (((q00 l0_0 a1).f5).length : Int) 0 l0_0 a0_1) else (none)) else (none)) else (none)
end
theorem dom_walk.mono_l : ∀ k, (∀ y0 y1 y2 y3, LeO (dom_walk.f k y0 y1 y2 y3) (dom_walk.f (k + 1) y0 y1 y2 y3)) ∧ (∀ y0 y1 y2 y3 y4 y5, LeO (dom_walk.l0 k y0 y1 y2 y3 y4 y5) (dom_walk.l0 (k + 1) y0 y1 y2 y3 y4 y5))
 | 0 => ⟨fun _ _ _ _ r h => by simp [dom_walk.f] at h, fun _ _ _ _ _ _ r h => by simp [dom_walk.l0] at h⟩
 | k + 1 => by
  obtain ⟨ih0, ih1⟩ := dom_walk.mono_l k
  refine ⟨?_, ?_⟩
  all_goals intros
  all_goals (first | unfold dom_walk.f | unfold dom_walk.l0)
  all_goals (repeat' first | with_reducible first | apply ih0 | apply ih1 | exact LeO.refl _ | exact LeO.none _ | refine LeO.ite ?_ ?_ | refine LeO.bind ?_ (fun _ => ?_) | (first | apply ih0 | apply ih1 | exact LeO.none _ | refine LeO.ite ?_ ?_ | refine LeO.bind ?_ (fun _ => ?_)))
theorem dom_walk.mono : ∀ a0 a1 a2 a3 k, LeO (dom_walk.f k a0 a1 a2 a3) (dom_walk.f (k + 1) a0 a1 a2 a3) := by
 intro a0 a1 a2 a3 k
 obtain ⟨ih0, ih1⟩ := dom_walk.mono_l k
 exact ih0 a0 a1 a2 a3
set_option maxHeartbeats 8000000 in
set_option maxRecDepth 100000 in
theorem dom_walk.calls (k : Nat) : ∀ (A0_0 : Option Addr) (c0_0 : Nat) (l0_0 : List (S43)) (a0_1 : Bool) (a1 : Int) (P2_ : Nat → Prop) (u9000_ : Value) (l2 : List Int) (r : List Int) (w0 w : World) (hB : Below w0.heap.size w0 w) (hr0_0 : ∀ W_, Kept w W_ (fun k_ => P2_ k_) → Kd.C k43 W_ A0_0 l0_0.length l0_0) (hc0_0 : l0_0.length ≤ c0_0) (ho2 : Kd.R (Kd.int .i64) 3 w w0.heap.size P2_ u9000_ l2) (h : dom_walk.f k l0_0 a0_1 a1 l2 = some r),
 Calls Tryd.prog 109 #[.agg #[.slice A0_0 l0_0.length c0_0, .bool a0_1], .int .i64 a1, u9000_] w fun e w' => ∃ v0_ : Value, e = .returned (v0_) ∧ Kd.R (Kd.int .i64) 3 w' w0.heap.size (fun k_ => (P2_ k_ ∨ w.heap.size ≤ k_)) v0_ r ∧ Below w0.heap.size w0 w' ∧ Kept w w' (fun k_ => P2_ k_) := by
 induction k using Nat.strongRecOn with
 | _ k ih =>
 intro A0_0 c0_0 l0_0 a0_1 a1 P2_ u9000_ l2 r w0 w hB hr0_0 hc0_0 ho2 h
 cases k with
 | zero => exact absurd h (by simp [dom_walk.f])
 | succ k =>
 simp only [dom_walk.f] at h
 have hu24 := Tryd.underlying24
 have HR0_0 := aS hr0_0
 have HC0_0 := aS hc0_0
 clear hr0_0 hc0_0
 have HO2 := aS (show Kd.R (Kd.int .i64) 3 w w0.heap.size (fun k_ => (P2_ k_ ∨ w.heap.size ≤ k_)) u9000_ l2 from Kd.R_mono ho2 (fun k_ hk => (.inl hk)))
 have HK := aS (Kept.refl w (fun k_ => P2_ k_))
 have HW0 := aS hB.size
 have HB := aS hB
 clear hB
 have H := h; clear h; unfold dom_walk.f at H
 refine iGp H ?_; clear H; intro c4 H
 have LMc4 := aS c4
 clear c4
 obtain ⟨y291, hy291⟩ : ∃ y_ : List Int, y_ = (l2 ++ [a1]) := ⟨_, rfl⟩
 replace H : (if 0 ≤ a1 then (if a1 < (l0_0.length : Int) then (dom_walk.l0 k y291 ((q00 l0_0 a1).f5) (((q00 l0_0 a1).f5).length : Int) 0 l0_0 a0_1) else (none)) else (none)) = some r := by first | (rw [hy291]; with_reducible exact H) | (have H2_ := (Option.bind_some _ _).symm.trans H; rw [hy291]; with_reducible exact H2_) | (have H2_ := (Option.bind_some _ _).symm.trans H; with_reducible exact H2_) | with_reducible exact H | (rw [hy291]; exact H) | exact H
 have Ny291 := aS hy291
 clear hy291
 refine iLp H ?_; clear H; intro c5b0 H
 refine iTp H ?_; clear H; intro c6b0 H
 have H' := aS H
 clear H
 go_enter Tryd.func109, Tryd.ntmps109
 go_wp2_with (first | ((with_reducible refine q07 (N := 3) rfl ?_); refine q0j ?hg (N := 3) ?hd (cs := #[.slice A0_0 l0_0.length c0_0, .bool a0_1]) (t := 24) ?hr ?_; (case hd => rfl); (case hg => rfl); (case hr => first | (go_simp; done) | (go_simp; rfl)); intro gb290 hg w7 hbox hb; have n0_ := aS (Kd.R_below (zf HO2.out) hb); have n1_ := aS (Kept.below (S := (fun k_ => P2_ k_)) (by repeat (first | (with_reducible first | exact HK.out | apply Kept.alloc | apply Kept.drewN | apply Kept.drew) | exact HK.out)) hb); have n2_ := aS (q02 (z7 HB.out) hb); have n3_ := aS (hbox); have n4_ := aS ((by rw [hg]; exact (by first | exact HK.out.1 | exact (show Kept w _ (fun k_ => P2_ k_) from by repeat (first | (with_reducible first | exact HK.out | apply Kept.alloc | apply Kept.drewN | apply Kept.drew) | exact HK.out)).1) : w.heap.size ≤ gb290)); have n5_ := aS ((by rw [hg]; exact (q06 (z7 HB.out)) : w0.heap.size ≤ gb290)); clear HO2; clear HK; clear HB; have HO2 := n0_; have HK := n1_; have HB := n2_; have BK290 := n3_; have GW290 := n4_; have GE290 := n5_; clear n0_ n1_ n2_ n3_ n4_ n5_; clear hb hbox hg) | ((with_reducible refine q17 (b := .append) (xs := #[.tmp 9, .tmp 11]) rfl ?_); at_builtin; refine Kd.R_append (Kd.int .i64) (w0 := w0) w0.heap.size rfl (.tmp 9) (.tmp 11) 31 3 (.int .i64 0) 8 rfl Tryd.underlying31 info3 rfl (by decide) (by omega) u9000_ l2 a1 [.int .i64 a1] (fun k_ => (P2_ k_ ∨ w.heap.size ≤ k_)) (fun _ => False) rfl rfl ?aP (fun _ hk => hk.elim) ?aF ?aO ?aB ?aS ?aL ?_; (case aP => exact rfl); (case aB => exact (z6 HB.out GE290.out)); (case aF => exact (fun k_ hk => (.inr (Nat.le_trans (by first | exact HK.out.1 | exact (show Kept w _ (fun k_ => P2_ k_) from by repeat (first | (with_reducible first | exact HK.out | apply Kept.alloc | apply Kept.drewN | apply Kept.drew | refine Kept.setCell ?_ (.inr GW290.out) _) | exact HK.out)).1) hk)))); (case aO => exact (zf HO2.out)); (case aS => exact (q06 (z6 HB.out GE290.out))); (case aL => have := LMc4.out; omega); intro v292 w8 ho hb hg hat; rw [← Ny291.out] at ho; have n0_ := aS (q0q (g := gb290) (o := .cells #[.slice A0_0 l0_0.length c0_0, .bool a0_1] 24 (0, 0)) (za BK290.out) hg (Kd.R_ne HO2.out BK290.out (by decide))); have n1_ := aS (hb); have n2_ := aS (Kept.of_grown (S := (fun k_ => P2_ k_)) hg (by repeat (first | (with_reducible first | exact HK.out | apply Kept.alloc | apply Kept.drewN | apply Kept.drew | refine Kept.setCell ?_ (.inr GW290.out) _) | exact HK.out)) (fun k_ e_ => (HO2.out.1 k_ e_))); have n3_ := aS (ho); clear BK290; clear HB; clear HK; clear HO2; have BK290 := n0_; have HB := n1_; have HK := n2_; have HO293 := n3_; clear n0_ n1_ n2_ n3_; clear ho hb hg hat; obtain ⟨hczL_0, hczL_1, hfzL_0, hfzL_1⟩ := bk2 BK290.out; have p294 : 0 ≤ (a1 : Int) := od zb; have q294 : a1 < (l0_0.length : Int) := od zb; obtain ⟨ad294, A294_2, c294_2, A294_5, c294_5, e294, hx294_0, hx294_1, hx294_2, hx294_3, hx294_4, hx294_5, hl294_2, hi294_2, hl294_5, hi294_5⟩ := at_T43_kept HR0_0.out HK.out a1 p294 q294; cases e294; have HR294_2 := aS hi294_2; have HC294_2 := aS hl294_2; clear hi294_2 hl294_2; have HR294_5 := aS hi294_5; have HC294_5 := aS hl294_5; clear hi294_5 hl294_5; replace p294 := eq_true p294; replace q294 := eq_true q294))
 go_loopg [2, 20] k (fun kq v2 v20 w' => ∃ (x2_1 : List Int) (x20_1 : Int), v20 = .int .i64 x20_1 ∧ Aside0 (dom_walk.l0 kq x2_1 ((q00 l0_0 a1).f5) (((q00 l0_0 a1).f5).length : Int) x20_1 l0_0 a0_1 = some r) ∧ Aside0 (kq ≤ k) ∧ Aside0 (Kd.R (Kd.int .i64) 3 w' w0.heap.size (fun k_ => (P2_ k_ ∨ w.heap.size ≤ k_)) v2 x2_1) ∧ Aside0 (w'.heap[gb290]? = some (.cells #[(.slice (some ad294) l0_0.length c0_0), .bool a0_1] 24 (0, 0))) ∧ Aside0 (Kept w w' (fun k_ => P2_ k_)) ∧ Aside0 (Below w0.heap.size w0 w'))
 case atStart => exact ⟨(y291), (0), zi, H', ⟨Nat.le_refl _⟩, ⟨by (with_reducible repeat (first | apply rA | apply rN | apply rD)); exact HO293.out⟩, ⟨by (with_reducible repeat (first | refine kN ?_ _ | refine kD ?_ | refine kA ?_ _)); exact BK290.out⟩, ⟨by repeat (first | (with_reducible first | exact HK.out | apply Kept.alloc | apply Kept.drewN | apply Kept.drew | refine Kept.setCell ?_ (.inr GW290.out) _) | exact HK.out)⟩, ⟨by repeat (first | (with_reducible first | exact HB.out | apply bA | apply bN | apply bD | refine bS ?_ GE290.out) | exact HB.out)⟩⟩
 case round =>
  clear H'
  obtain ⟨x2_1, x20_1, rfl, HA, HK1, HO_2, BK290, HK, HB⟩ := hrel
  cases gk with
  | zero => exact absurd HA.out (by simp [dom_walk.l0])
  | succ k1 =>
   have H := HA.out
   clear HA
   simp only [dom_walk.l0] at H
   refine iT H ?p10 ?n10 <;> clear H
   case' p10 => intro c10b0 H; refine iLp H ?_; clear H; intro c11b0 H; refine iTp H ?_; clear H; intro c12b0 H
   case' n10 => intro c10b0 H
   case p10 =>
    replace H := iB H
    obtain ⟨t296, A13, H⟩ := H
    have H' := aS H
    clear H
    obtain ⟨ad295, e295, hx295_0, p295, q295⟩ := atIA (HR294_5.out _ HK.out) x20_1 zb zb
    cases e295
    obtain ⟨hczL_0, hczL_1, hfzL_0, hfzL_1⟩ := bk2 BK290.out
    obtain ⟨Ao15, co15, eo15⟩ := Kd.R_slice HO_2.out
    subst eo15
    go_wp2_with (first | ((with_reducible refine q08 (f := 109) rfl ?_); refine q0n (some 27) rfl rfl Tryd.func109 (by kernel_rfl) rfl #[.agg #[.slice (some ad294) l0_0.length c0_0, .bool a0_1], .int .i64 (rd ((q00 l0_0 a1).f5) x20_1), .slice Ao15 x2_1.length co15] rfl zc ?_; (with_reducible refine (ih k1 (by have := HK1.out; omega) _ _ l0_0 a0_1 (rd ((q00 l0_0 a1).f5) x20_1) (fun k_ => some k_ = (.slice Ao15 x2_1.length co15 : Value).ownBlock) (.slice Ao15 x2_1.length co15) x2_1 t296 w0 _ ?side1 ?side2 ?side3 ?side4 A13.out).mono ?_); (case side1 => repeat (first | (with_reducible first | exact HB.out | apply bA | apply bN | apply bD | refine bS ?_ GE290.out) | exact HB.out)); (case side2 => exact Kd.C_kept_call HR0_0.out (by repeat (first | (with_reducible first | exact HK.out | apply Kept.alloc | apply Kept.drewN | apply Kept.drew | refine Kept.setCell ?_ (.inr GW290.out) _) | exact HK.out)) (fun k_ hs_ => (fun e_ => (HO_2.out.1 k_ e_.symm)) hs_)); (case side3 => exact HC0_0.out); (case side4 => exact Kd.R_tight rfl HO_2.out); rintro e w16 ⟨v297, rfl, ho0, hb, hkp⟩; refine ⟨_, rfl, ?_⟩; have n0_ := aS (blk_kept (za BK290.out) hkp (fun hs_ => (fun e_ => (Kd.R_ne HO_2.out BK290.out (by decide)) e_) hs_)); have n1_ := aS (Kd.R_mono (ok' := fun k_ => (P2_ k_ ∨ w.heap.size ≤ k_)) ho0 (fun k_ hk_ => Or.elim hk_ (fun hs_ => (HO_2.out.1 k_ (hs_).symm)) (fun hn_ => (.inr (Nat.le_trans (by first | exact HK.out.1 | exact (show Kept w _ (fun k_ => P2_ k_) from by repeat (first | (with_reducible first | exact HK.out | apply Kept.alloc | apply Kept.drewN | apply Kept.drew | refine Kept.setCell ?_ (.inr GW290.out) _) | exact HK.out)).1) hn_))))); have n2_ := aS (Kept.then_ (S := (fun k_ => P2_ k_)) (by repeat (first | (with_reducible first | exact HK.out | apply Kept.alloc | apply Kept.drewN | apply Kept.drew | refine Kept.setCell ?_ (.inr GW290.out) _) | exact HK.out)) hkp (fun k_ hs_ => (fun e_ => (HO_2.out.1 k_ e_.symm)) hs_)); have n3_ := aS (hb); clear BK290; clear HK; clear HB; clear HO_2; have BK290 := n0_; have HO298 := n1_; have HK := n2_; have HB := n3_; clear n0_ n1_ n2_ n3_; (try clear hb); (try clear hkp); (try clear ho0)))
    go_roundg k1
    case measure => have := HK1.out; omega
    case rel => exact ⟨(t296), (wrap64 (x20_1 + 1)), zi, H', ⟨by have := HK1.out; omega⟩, ⟨by (with_reducible repeat (first | apply rA | apply rN | apply rD)); exact HO298.out⟩, ⟨by (with_reducible repeat (first | refine kN ?_ _ | refine kD ?_ | refine kA ?_ _)); exact BK290.out⟩, ⟨by repeat (first | (with_reducible first | exact HK.out | apply Kept.alloc | apply Kept.drewN | apply Kept.drew | refine Kept.setCell ?_ (.inr GW290.out) _) | exact HK.out)⟩, ⟨by repeat (first | (with_reducible first | exact HB.out | apply bA | apply bN | apply bD | refine bS ?_ GE290.out) | exact HB.out)⟩⟩
   case n10 =>
    obtain rfl := Option.some.inj H
    go_wp2
    go_ret
    exact ⟨_, by first | rfl | (simp [q05, q04] <;> rfl) | (simp [*, q05, q04] <;> rfl), by (with_reducible repeat (first | apply rA | apply rN | apply rD)); exact HO_2.out, by repeat (first | (with_reducible first | exact HB.out | apply bA | apply bN | apply bD | refine bS ?_ GE290.out) | exact HB.out), by repeat (first | (with_reducible first | exact HK.out | apply Kept.alloc | apply Kept.drewN | apply Kept.drew | refine Kept.setCell ?_ (.inr GW290.out) _) | exact HK.out)⟩
def dom_Order.f (k : Nat) (l0_0 : List (S43)) (a0_1 : Bool) : Option (List Int × Int) := (dom_Check.f k l0_0 a0_1).bind fun t300 => (if t300 = 0 then ((dom_walk.f k l0_0 a0_1 0 ([] : List Int)).bind fun t301 => (some (t301, 0))) else (some (([] : List Int), t300)))
theorem dom_Order.mono : ∀ a0 a1 k, LeO (dom_Order.f k a0 a1) (dom_Order.f (k + 1) a0 a1) := by
 intro a0 a1 k
 unfold dom_Order.f
 repeat' first | with_reducible first | apply dom_Check.mono | apply dom_walk.mono | exact LeO.refl _ | exact LeO.none _ | refine LeO.ite ?_ ?_ | refine LeO.bind ?_ (fun _ => ?_) | (first | apply dom_Check.mono | apply dom_walk.mono | exact LeO.none _ | refine LeO.ite ?_ ?_ | refine LeO.bind ?_ (fun _ => ?_))
set_option maxHeartbeats 8000000 in
set_option maxRecDepth 100000 in
theorem dom_Order.calls (k : Nat) (A0_0 : Option Addr) (c0_0 : Nat) (l0_0 : List (S43)) (a0_1 : Bool) (r1 : List Int) (r2 : Int) (w : World) (hr0_0 : Kd.C k43 w A0_0 l0_0.length l0_0) (hc0_0 : l0_0.length ≤ c0_0) (h : dom_Order.f k l0_0 a0_1 = some (r1, r2)) :
 Calls Tryd.prog 59 #[.agg #[.slice A0_0 l0_0.length c0_0, .bool a0_1]] w fun e w' => ∃ v0_ : Value, e = .returned (.tuple #[v0_, .int .i64 r2]) ∧ Kd.R (Kd.int .i64) 3 w' w.heap.size (fun _ => True) v0_ r1 ∧ Below w.heap.size w w' := by
 have hu24 := Tryd.underlying24
 have HR0_0 := aS hr0_0
 have HC0_0 := aS hc0_0
 clear hr0_0 hc0_0
 have HB := aS (Below.refl w.heap.size w)
 have H := h; clear h; unfold dom_Order.f at H
 replace H := iB H
 obtain ⟨t300, A2, H⟩ := H
 refine iE H ?p3 ?n3 <;> clear H
 case' p3 => intro c3b0 c3b1 H
 case' n3 => intro c3 c3b0 c3b1 H
 case p3 =>
  replace H := iB H
  obtain ⟨t301, A4, H⟩ := H
  simp only [Option.some.injEq, Prod.mk.injEq] at H
  obtain ⟨rfl, rfl⟩ := H
  go_enter Tryd.func59, Tryd.ntmps59
  go_wp2_with (first | ((with_reducible refine q07 (N := 1) rfl ?_); refine box0 rfl (N := 1) rfl (cs := #[.slice A0_0 l0_0.length c0_0, .bool a0_1]) (t := 24) zh (z7 HB.out) ?_; clear HB; intro gb299 w5 BK299 GW299 HB; have GE299 := GW299; obtain ⟨hczL_0, hczL_1, hfzL_0, hfzL_1⟩ := bk2 BK299.out) | ((with_reducible refine q08 (f := 52) rfl ?_); refine q0n (some 6) rfl rfl Tryd.func52 (by kernel_rfl) rfl #[.agg #[.slice A0_0 l0_0.length c0_0, .bool a0_1]] rfl zc ?_; (with_reducible refine (dom_Check.calls k _ _ l0_0 a0_1 t300 _ ?side1 ?side2 A2.out).mono ?_); (case side1 => repeat (first | exact (Kd.C_below HR0_0.out HB.out) | (with_reducible refine cA ?_ _) | (with_reducible refine cN ?_ _) | (with_reducible refine cD ?_))); (case side2 => exact HC0_0.out); rintro e w7 ⟨rfl, hb⟩; refine ⟨_, rfl, ?_⟩; replace BK299 := aS (q01 (g := gb299) (o := .cells #[.slice A0_0 l0_0.length c0_0, .bool a0_1] 24 (0, 0)) (za BK299.out) hb); replace HB := aS (q02 (z6 HB.out GE299.out) hb); (try clear hb); (try clear hb2); (try clear hk); (try clear hi); obtain ⟨hczL_0, hczL_1, hfzL_0, hfzL_1⟩ := bk2 BK299.out) | ((with_reducible refine q08 (f := 109) rfl ?_); refine q0n (some 11) rfl rfl Tryd.func109 (by kernel_rfl) rfl #[.agg #[.slice A0_0 l0_0.length c0_0, .bool a0_1], .int .i64 0, .slice none 0 0] rfl zc ?_; (refine (dom_walk.calls k _ _ l0_0 a0_1 0 (fun k_ => some k_ = (.slice none 0 0 : Value).ownBlock) (.slice none 0 0) ([] : List Int) t301 w _ ?side1 ?side2 ?side3 ?side4 A4.out).mono ?_); (case side1 => repeat (first | (with_reducible first | exact HB.out | apply bA | apply bN | apply bD | refine bS ?_ GE299.out) | exact HB.out)); (case side2 => exact Kd.C_kept_came k43_heap HR0_0.out (z6 HB.out GE299.out) (fun k_ hs_ => (fun e_ => by simp [Value.ownBlock] at e_) hs_)); (case side3 => exact HC0_0.out); (case side4 => exact Kd.R_nil _ _ _ _ _); rintro e w9 ⟨v302, rfl, ho0, hb, hkp⟩; refine ⟨_, rfl, ?_⟩; replace BK299 := aS (blk_kept (za BK299.out) hkp (fun hs_ => (fun e_ => by simp [Value.ownBlock] at e_) hs_)); have HO303 := aS (Kd.R_mono (ok' := fun k_ => True) ho0 (fun k_ hk_ => trivial)); replace HB := aS (hb); (try clear hb); (try clear hkp); (try clear ho0)))
  go_ret2
  exact ⟨_, by first | rfl | (simp [q05, q04] <;> rfl) | (simp [*, q05, q04] <;> rfl), by (with_reducible repeat (first | apply rA | apply rN | apply rD)); exact HO303.out, by repeat (first | (with_reducible first | exact HB.out | apply bA | apply bN | apply bD | refine bS ?_ GE299.out) | exact HB.out)⟩
 case n3 =>
  simp only [Option.some.injEq, Prod.mk.injEq] at H
  obtain ⟨rfl, rfl⟩ := H
  go_enter Tryd.func59, Tryd.ntmps59
  go_wp2_with (first | ((with_reducible refine q07 (N := 1) rfl ?_); refine box0 rfl (N := 1) rfl (cs := #[.slice A0_0 l0_0.length c0_0, .bool a0_1]) (t := 24) zh (z7 HB.out) ?_; clear HB; intro gb299 w10 BK299 GW299 HB; have GE299 := GW299; obtain ⟨hczL_0, hczL_1, hfzL_0, hfzL_1⟩ := bk2 BK299.out) | ((with_reducible refine q08 (f := 52) rfl ?_); refine q0n (some 6) rfl rfl Tryd.func52 (by kernel_rfl) rfl #[.agg #[.slice A0_0 l0_0.length c0_0, .bool a0_1]] rfl zc ?_; (with_reducible refine (dom_Check.calls k _ _ l0_0 a0_1 t300 _ ?side1 ?side2 A2.out).mono ?_); (case side1 => repeat (first | exact (Kd.C_below HR0_0.out HB.out) | (with_reducible refine cA ?_ _) | (with_reducible refine cN ?_ _) | (with_reducible refine cD ?_))); (case side2 => exact HC0_0.out); rintro e w12 ⟨rfl, hb⟩; refine ⟨_, rfl, ?_⟩; replace BK299 := aS (q01 (g := gb299) (o := .cells #[.slice A0_0 l0_0.length c0_0, .bool a0_1] 24 (0, 0)) (za BK299.out) hb); replace HB := aS (q02 (z6 HB.out GE299.out) hb); (try clear hb); (try clear hb2); (try clear hk); (try clear hi)))
  go_ret2
  exact ⟨_, by first | rfl | (simp [q05, q04] <;> rfl) | (simp [*, q05, q04] <;> rfl), by first | exact Kd.R_nil _ _ _ _ _ | exact Kd.N_nil _ _ _ _ _ | exact Kd.V_nil _ _ _ _ _ | exact Kd.Q_nil _ _ _ _ _ | exact Kd.S_nil _ _ _ _ _, by repeat (first | (with_reducible first | exact HB.out | apply bA | apply bN | apply bD | refine bS ?_ GE299.out) | exact HB.out)⟩
def span_ranger_part.j0 : Nat → Int → ByteArray → Int → Int → List (S43) → Bool → Int → Int → Int → Int → Option (ByteArray)
 | 0, _, _, _, _, _, _, _, _, _, _ => none
 | k + 1, x1, x7, x8, x9, x305000, x305001, x306000, x306001, x306002, x306003 => if x306002 = x1 then (if 0 ≤ x8 then (if x8 ≤ x306003 then (if x306003 ≤ (x7.size : Int) then (some (x7.extract (x8 : Int).toNat (x306003 : Int).toNat)) else (none)) else (none)) else (none)) else ((span_ranger_order.f k x305000 x305001 x1 0 x306002 x306003).bind fun t308 => (if t308 > 0 then (some (⟨#[]⟩ : ByteArray)) else (if 0 ≤ x8 then (if x8 ≤ x9 then (if x9 ≤ (x7.size : Int) then (some (x7.extract (x8 : Int).toNat (x9 : Int).toNat)) else (none)) else (none)) else (none))))
def span_ranger_part.f (k : Nat) (l0_0 : List (S43)) (a0_1 : Bool) (a1 : Int) (a2_0 : Int) (a2_1 : Int) (a2_2 : Int) (a2_3 : Int) : Option (ByteArray) := if 0 ≤ a1 then (if a1 < (l0_0.length : Int) then (if a2_0 = a1 then (span_ranger_part.j0 k a1 ((q00 l0_0 a1).f3) a2_1 (((q00 l0_0 a1).f3).size : Int) l0_0 a0_1 a2_0 a2_1 a2_2 a2_3) else ((span_ranger_order.f k l0_0 a0_1 a1 0 a2_0 a2_1).bind fun t307 => (if t307 < 0 then (some (⟨#[]⟩ : ByteArray)) else (span_ranger_part.j0 k a1 ((q00 l0_0 a1).f3) 0 (((q00 l0_0 a1).f3).size : Int) l0_0 a0_1 a2_0 a2_1 a2_2 a2_3)))) else (none)) else (none)
theorem span_ranger_part.mono_l : ∀ k, (∀ y0 y1 y2 y3 y4 y5 y6 y7 y8 y9, LeO (span_ranger_part.j0 k y0 y1 y2 y3 y4 y5 y6 y7 y8 y9) (span_ranger_part.j0 (k + 1) y0 y1 y2 y3 y4 y5 y6 y7 y8 y9))
 | 0 => fun _ _ _ _ _ _ _ _ _ _ r h => by simp [span_ranger_part.j0] at h
 | k + 1 => by
  have ih0 := span_ranger_part.mono_l k
  ·intro y0 y1 y2 y3 y4 y5 y6 y7 y8 y9
   unfold span_ranger_part.j0
   repeat' first | with_reducible first | apply ih0 | apply span_ranger_order.mono | exact LeO.refl _ | exact LeO.none _ | refine LeO.ite ?_ ?_ | refine LeO.bind ?_ (fun _ => ?_) | (first | apply ih0 | apply span_ranger_order.mono | exact LeO.none _ | refine LeO.ite ?_ ?_ | refine LeO.bind ?_ (fun _ => ?_))
theorem span_ranger_part.mono : ∀ a0 a1 a2 a3 a4 a5 a6 k, LeO (span_ranger_part.f k a0 a1 a2 a3 a4 a5 a6) (span_ranger_part.f (k + 1) a0 a1 a2 a3 a4 a5 a6) := by
 intro a0 a1 a2 a3 a4 a5 a6 k
 have ih0 := span_ranger_part.mono_l k
 unfold span_ranger_part.f
 repeat' first | with_reducible first | apply ih0 | apply span_ranger_order.mono | exact LeO.refl _ | exact LeO.none _ | refine LeO.ite ?_ ?_ | refine LeO.bind ?_ (fun _ => ?_) | (first | apply ih0 | apply span_ranger_order.mono | exact LeO.none _ | refine LeO.ite ?_ ?_ | refine LeO.bind ?_ (fun _ => ?_))
set_option maxHeartbeats 8000000 in
set_option maxRecDepth 100000 in
theorem span_ranger_part.calls (k : Nat) (A0_0 : Option Addr) (c0_0 : Nat) (l0_0 : List (S43)) (a0_1 : Bool) (a1 : Int) (a2_0 : Int) (a2_1 : Int) (a2_2 : Int) (a2_3 : Int) (r : ByteArray) (w : World) (hr0_0 : Kd.C k43 w A0_0 l0_0.length l0_0) (hc0_0 : l0_0.length ≤ c0_0) (h : span_ranger_part.f k l0_0 a0_1 a1 a2_0 a2_1 a2_2 a2_3 = some r) :
 Calls Tryd.prog 89 #[.agg #[.slice A0_0 l0_0.length c0_0, .bool a0_1], .int .i64 a1, .agg #[.int .i64 a2_0, .int .i64 a2_1, .int .i64 a2_2, .int .i64 a2_3]] w fun e w' => e = .returned (.string r) ∧ Below w.heap.size w w' := by
 have hu124 := Tryd.underlying124
 have hu52 := Tryd.underlying52
 have hu50 := Tryd.underlying50
 have HR0_0 := aS hr0_0
 have HC0_0 := aS hc0_0
 clear hr0_0 hc0_0
 have HB := aS (Below.refl w.heap.size w)
 have H := h; clear h; unfold span_ranger_part.f at H
 refine iLp H ?_; clear H; intro c4b0 H
 refine iTp H ?_; clear H; intro c5b0 H
 have HC6 := aS H
 clear H
 go_enter Tryd.func89, Tryd.ntmps89
 go_upto_block 0 with (first | ((with_reducible refine q07 (N := 3) rfl ?_); refine box0 rfl (N := 3) rfl (cs := #[.slice A0_0 l0_0.length c0_0, .bool a0_1]) (t := 124) zh (z7 HB.out) ?_; clear HB; intro gb304 w7 BK304 GW304 HB; have GE304 := GW304) | ((with_reducible refine q07 (N := 5) rfl ?_); refine q0j ?hg (N := 5) ?hd (cs := #[.int .i64 a2_0, .int .i64 a2_1, .int .i64 a2_2, .int .i64 a2_3]) (t := 52) ?hr ?_; (case hd => rfl); (case hg => rfl); (case hr => first | (go_simp; done) | (go_simp; rfl)); intro gb305 hg w8 hbox hb; have n0_ := aS (q01 (g := gb304) (o := .cells #[.slice A0_0 l0_0.length c0_0, .bool a0_1] 124 (0, 0)) (za BK304.out) hb); have n1_ := aS (q02 (z6 HB.out GE304.out) hb); have n2_ := aS (hbox); have n3_ := aS ((by rw [hg]; exact (q06 (z6 HB.out GE304.out)) : w.heap.size ≤ gb305)); have n4_ := aS ((by rw [hg]; exact (q06 (z6 HB.out GE304.out)) : w.heap.size ≤ gb305)); have n5_ := aS ((by rw [hg]; exact Nat.ne_of_lt (q0i (g := gb304) (o := .cells #[.slice A0_0 l0_0.length c0_0, .bool a0_1] 124 (0, 0)) (za BK304.out)) : gb304 ≠ gb305)); have n6_ := aS ((by rw [hg]; exact Nat.ne_of_gt (q0i (g := gb304) (o := .cells #[.slice A0_0 l0_0.length c0_0, .bool a0_1] 124 (0, 0)) (za BK304.out)) : gb305 ≠ gb304)); clear BK304; clear HB; have BK304 := n0_; have HB := n1_; have BK305 := n2_; have GW305 := n3_; have GE305 := n4_; have NB304_305 := n5_; have NB305_304 := n6_; clear n0_ n1_ n2_ n3_ n4_ n5_ n6_; clear hb hbox hg; have hnb9 := NB304_305.out; have hnc9 := NB305_304.out; obtain ⟨hczL_0, hczL_1, hfzL_0, hfzL_1⟩ := bk2 BK304.out; obtain ⟨ad306, A306_2, c306_2, A306_5, c306_5, e306, hx306_0, hx306_1, hx306_2, hx306_3, hx306_4, hx306_5, HC306_2, HR306_2, HC306_5, HR306_5, p306, q306⟩ := q0o HB.out HR0_0.out a1 zb zb; cases e306))
 (try simp only [Act.put, s1, s2, s3])
 go_cut [8] (fun v8 wc => ∃ (kq : Nat) (x8_5 : Int), v8 = .int .i64 x8_5 ∧ Aside0 (span_ranger_part.j0 kq a1 ((q00 l0_0 a1).f3) x8_5 (((q00 l0_0 a1).f3).size : Int) l0_0 a0_1 a2_0 a2_1 a2_2 a2_3 = some r) ∧ Aside0 (kq ≤ k) ∧ Aside0 (wc.heap[gb304]? = some (.cells #[(.slice (some ad306) l0_0.length c0_0), .bool a0_1] 124 (0, 0))) ∧ Aside0 (wc.heap[gb305]? = some (.cells #[.int .i64 a2_0, .int .i64 a2_1, .int .i64 a2_2, .int .i64 a2_3] 52 (0, 0))) ∧ Aside0 (Below w.heap.size w wc))
 case first =>
  have H := HC6.out
  clear HC6
  refine iE H ?p11 ?n11 <;> clear H
  case' p11 => intro c11b0 c11b1 H
  case' n11 => intro c11 c11b0 c11b1 H; (first | rw [c11b0] | (simp only [q09, q0a]; rw [c11b0]) | skip); replace H := iB H; obtain ⟨t307, A14, H⟩ := H; refine iT H ?p15 ?n15 <;> clear H
  case' p15 => intro c15b0 H
  case' n15 => intro c15b0 H
  case p11 =>
   (first | rw [c11b0] | (simp only [q09, q0a]; rw [c11b0]) | skip)
   have H' := aS H
   clear H
   have hnb12 := NB305_304.out
   have hnc12 := NB304_305.out
   obtain ⟨hczL_0, hczL_1, hczL_2, hczL_3, hfzL_0, hfzL_1, hfzL_2, hfzL_3⟩ := bk4 BK305.out
   go_wp2
   go_meet
   case rel => exact ⟨_, (a2_1), zi, H', ⟨by first | omega | exact Nat.le_refl _⟩, ⟨by (with_reducible repeat (first | refine kN ?_ _ | refine kD ?_ | refine kA ?_ _)); exact BK304.out⟩, ⟨by (with_reducible repeat (first | refine kN ?_ _ | refine kD ?_ | refine kA ?_ _)); exact BK305.out⟩, ⟨by repeat (first | (with_reducible first | exact HB.out | apply bA | apply bN | apply bD | refine bS ?_ GE304.out | refine bS ?_ GE305.out) | exact HB.out)⟩⟩
  case p15 =>
   obtain rfl := Option.some.inj H
   have hnb16 := NB305_304.out
   have hnc16 := NB304_305.out
   obtain ⟨hczL_0, hczL_1, hczL_2, hczL_3, hfzL_0, hfzL_1, hfzL_2, hfzL_3⟩ := bk4 BK305.out
   obtain ⟨hczL_0, hczL_1, hfzL_0, hfzL_1⟩ := bk2 BK304.out
   go_wp2_with (first | ((with_reducible refine q08 (f := 88) rfl ?_); refine q0n (some 34) rfl rfl Tryd.func88 (by kernel_rfl) rfl #[.agg #[.slice (some ad306) l0_0.length c0_0, .bool a0_1], .agg #[.int .i64 a1, .int .i64 0], .agg #[.int .i64 a2_0, .int .i64 a2_1]] rfl zc ?_; (with_reducible refine (span_ranger_order.calls k _ _ l0_0 a0_1 a1 0 a2_0 a2_1 t307 _ ?side1 ?side2 A14.out).mono ?_); (case side1 => repeat (first | exact (Kd.C_below HR0_0.out HB.out) | (with_reducible refine cA ?_ _) | (with_reducible refine cN ?_ _) | (with_reducible refine cD ?_))); (case side2 => exact HC0_0.out); rintro e w19 ⟨rfl, hb⟩; refine ⟨_, rfl, ?_⟩; replace BK304 := aS (q01 (g := gb304) (o := .cells #[.slice (some ad306) l0_0.length c0_0, .bool a0_1] 124 (0, 0)) (za BK304.out) hb); replace BK305 := aS (q01 (g := gb305) (o := .cells #[.int .i64 a2_0, .int .i64 a2_1, .int .i64 a2_2, .int .i64 a2_3] 52 (0, 0)) (za BK305.out) hb); replace HB := aS (q02 (by repeat (first | (with_reducible first | exact HB.out | apply bA | apply bN | apply bD | refine bS ?_ GE304.out | refine bS ?_ GE305.out) | exact HB.out)) hb); (try clear hb); (try clear hb2); (try clear hk); (try clear hi)))
   go_ret
   exact ⟨by first | rfl | (simp [q05, q04] <;> rfl) | (simp [*, q05, q04] <;> rfl), by repeat (first | (with_reducible first | exact HB.out | apply bA | apply bN | apply bD | refine bS ?_ GE304.out | refine bS ?_ GE305.out) | exact HB.out)⟩
  case n15 =>
   have H' := aS H
   clear H
   have hnb20 := NB305_304.out
   have hnc20 := NB304_305.out
   obtain ⟨hczL_0, hczL_1, hczL_2, hczL_3, hfzL_0, hfzL_1, hfzL_2, hfzL_3⟩ := bk4 BK305.out
   obtain ⟨hczL_0, hczL_1, hfzL_0, hfzL_1⟩ := bk2 BK304.out
   go_wp2_with (first | ((with_reducible refine q08 (f := 88) rfl ?_); refine q0n (some 34) rfl rfl Tryd.func88 (by kernel_rfl) rfl #[.agg #[.slice (some ad306) l0_0.length c0_0, .bool a0_1], .agg #[.int .i64 a1, .int .i64 0], .agg #[.int .i64 a2_0, .int .i64 a2_1]] rfl zc ?_; (with_reducible refine (span_ranger_order.calls k _ _ l0_0 a0_1 a1 0 a2_0 a2_1 t307 _ ?side1 ?side2 A14.out).mono ?_); (case side1 => repeat (first | exact (Kd.C_below HR0_0.out HB.out) | (with_reducible refine cA ?_ _) | (with_reducible refine cN ?_ _) | (with_reducible refine cD ?_))); (case side2 => exact HC0_0.out); rintro e w23 ⟨rfl, hb⟩; refine ⟨_, rfl, ?_⟩; replace BK304 := aS (q01 (g := gb304) (o := .cells #[.slice (some ad306) l0_0.length c0_0, .bool a0_1] 124 (0, 0)) (za BK304.out) hb); replace BK305 := aS (q01 (g := gb305) (o := .cells #[.int .i64 a2_0, .int .i64 a2_1, .int .i64 a2_2, .int .i64 a2_3] 52 (0, 0)) (za BK305.out) hb); replace HB := aS (q02 (by repeat (first | (with_reducible first | exact HB.out | apply bA | apply bN | apply bD | refine bS ?_ GE304.out | refine bS ?_ GE305.out) | exact HB.out)) hb); (try clear hb); (try clear hb2); (try clear hk); (try clear hi)))
   go_meet
   case rel => exact ⟨_, (0), zi, H', ⟨by first | omega | exact Nat.le_refl _⟩, ⟨by (with_reducible repeat (first | refine kN ?_ _ | refine kD ?_ | refine kA ?_ _)); exact BK304.out⟩, ⟨by (with_reducible repeat (first | refine kN ?_ _ | refine kD ?_ | refine kA ?_ _)); exact BK305.out⟩, ⟨by repeat (first | (with_reducible first | exact HB.out | apply bA | apply bN | apply bD | refine bS ?_ GE304.out | refine bS ?_ GE305.out) | exact HB.out)⟩⟩
 case rest =>
  clear HC6
  obtain ⟨kq, x8_5, rfl, HA, HJ5, BK304, BK305, HB⟩ := hcut
  cases kq with
  | zero => exact absurd HA.out (by simp [span_ranger_part.j0])
  | succ kj5 =>
   have H := HA.out
   clear HA
   simp only [span_ranger_part.j0] at H
   refine iE H ?p24 ?n24 <;> clear H
   case' p24 =>
    intro c24b0 c24b1 H
    refine iGp H ?_; clear H; intro c25 H
    have c25b0 := eq_true c25
    have c25b1 : decide (0 ≤ x8_5) = true := decide_eq_true c25
    clear c25
    refine iGp H ?_; clear H; intro c26 H
    have c26b0 := eq_true c26
    have c26b1 : decide (x8_5 ≤ a2_3) = true := decide_eq_true c26
    clear c26
    refine iGp H ?_; clear H; intro c27 H
    have c27b0 := eq_true c27
    have c27b1 : decide (a2_3 ≤ (((q00 l0_0 a1).f3).size : Int)) = true := decide_eq_true c27
    clear c27
   case' n24 => intro c24 c24b0 c24b1 H; replace H := iB H; obtain ⟨t308, A30, H⟩ := H; refine iT H ?p31 ?n31 <;> clear H
   case' p31 => intro c31b0 H
   case' n31 =>
    intro c31b0 H
    refine iGp H ?_; clear H; intro c36 H
    have c36b0 := eq_true c36
    have c36b1 : decide (0 ≤ x8_5) = true := decide_eq_true c36
    clear c36
    refine iGp H ?_; clear H; intro c37 H
    have c37b0 := eq_true c37
    have c37b1 : decide (x8_5 ≤ (((q00 l0_0 a1).f3).size : Int)) = true := decide_eq_true c37
    clear c37
    refine iGp H ?_; clear H; intro c38 H
    have c38b0 := eq_true c38
    have c38b1 : decide ((((q00 l0_0 a1).f3).size : Int) ≤ (((q00 l0_0 a1).f3).size : Int)) = true := decide_eq_true c38
    clear c38
   case p24 =>
    obtain rfl := Option.some.inj H
    have hnb28 := NB305_304.out
    have hnc28 := NB304_305.out
    obtain ⟨hczL_0, hczL_1, hczL_2, hczL_3, hfzL_0, hfzL_1, hfzL_2, hfzL_3⟩ := bk4 BK305.out
    go_wp2
    go_ret
    exact ⟨by first | rfl | (simp [q05, q04] <;> rfl) | (simp [*, q05, q04] <;> rfl), by repeat (first | (with_reducible first | exact HB.out | apply bA | apply bN | apply bD | refine bS ?_ GE304.out | refine bS ?_ GE305.out) | exact HB.out)⟩
   case p31 =>
    obtain rfl := Option.some.inj H
    have hnb32 := NB305_304.out
    have hnc32 := NB304_305.out
    obtain ⟨hczL_0, hczL_1, hczL_2, hczL_3, hfzL_0, hfzL_1, hfzL_2, hfzL_3⟩ := bk4 BK305.out
    obtain ⟨hczL_0, hczL_1, hfzL_0, hfzL_1⟩ := bk2 BK304.out
    go_wp2_with (first | ((with_reducible refine q08 (f := 88) rfl ?_); refine q0n (some 51) rfl rfl Tryd.func88 (by kernel_rfl) rfl #[.agg #[.slice (some ad306) l0_0.length c0_0, .bool a0_1], .agg #[.int .i64 a1, .int .i64 0], .agg #[.int .i64 a2_2, .int .i64 a2_3]] rfl zc ?_; (with_reducible refine (span_ranger_order.calls kj5 _ _ l0_0 a0_1 a1 0 a2_2 a2_3 t308 _ ?side1 ?side2 A30.out).mono ?_); (case side1 => repeat (first | exact (Kd.C_below HR0_0.out HB.out) | (with_reducible refine cA ?_ _) | (with_reducible refine cN ?_ _) | (with_reducible refine cD ?_))); (case side2 => exact HC0_0.out); rintro e w35 ⟨rfl, hb⟩; refine ⟨_, rfl, ?_⟩; replace BK304 := aS (q01 (g := gb304) (o := .cells #[.slice (some ad306) l0_0.length c0_0, .bool a0_1] 124 (0, 0)) (za BK304.out) hb); replace BK305 := aS (q01 (g := gb305) (o := .cells #[.int .i64 a2_0, .int .i64 a2_1, .int .i64 a2_2, .int .i64 a2_3] 52 (0, 0)) (za BK305.out) hb); replace HB := aS (q02 (by repeat (first | (with_reducible first | exact HB.out | apply bA | apply bN | apply bD | refine bS ?_ GE304.out | refine bS ?_ GE305.out) | exact HB.out)) hb); (try clear hb); (try clear hb2); (try clear hk); (try clear hi)))
    go_ret
    exact ⟨by first | rfl | (simp [q05, q04] <;> rfl) | (simp [*, q05, q04] <;> rfl), by repeat (first | (with_reducible first | exact HB.out | apply bA | apply bN | apply bD | refine bS ?_ GE304.out | refine bS ?_ GE305.out) | exact HB.out)⟩
   case n31 =>
    obtain rfl := Option.some.inj H
    have hnb39 := NB305_304.out
    have hnc39 := NB304_305.out
    obtain ⟨hczL_0, hczL_1, hczL_2, hczL_3, hfzL_0, hfzL_1, hfzL_2, hfzL_3⟩ := bk4 BK305.out
    obtain ⟨hczL_0, hczL_1, hfzL_0, hfzL_1⟩ := bk2 BK304.out
    go_wp2_with (first | ((with_reducible refine q08 (f := 88) rfl ?_); refine q0n (some 51) rfl rfl Tryd.func88 (by kernel_rfl) rfl #[.agg #[.slice (some ad306) l0_0.length c0_0, .bool a0_1], .agg #[.int .i64 a1, .int .i64 0], .agg #[.int .i64 a2_2, .int .i64 a2_3]] rfl zc ?_; (with_reducible refine (span_ranger_order.calls kj5 _ _ l0_0 a0_1 a1 0 a2_2 a2_3 t308 _ ?side1 ?side2 A30.out).mono ?_); (case side1 => repeat (first | exact (Kd.C_below HR0_0.out HB.out) | (with_reducible refine cA ?_ _) | (with_reducible refine cN ?_ _) | (with_reducible refine cD ?_))); (case side2 => exact HC0_0.out); rintro e w42 ⟨rfl, hb⟩; refine ⟨_, rfl, ?_⟩; replace BK304 := aS (q01 (g := gb304) (o := .cells #[.slice (some ad306) l0_0.length c0_0, .bool a0_1] 124 (0, 0)) (za BK304.out) hb); replace BK305 := aS (q01 (g := gb305) (o := .cells #[.int .i64 a2_0, .int .i64 a2_1, .int .i64 a2_2, .int .i64 a2_3] 52 (0, 0)) (za BK305.out) hb); replace HB := aS (q02 (by repeat (first | (with_reducible first | exact HB.out | apply bA | apply bN | apply bD | refine bS ?_ GE304.out | refine bS ?_ GE305.out) | exact HB.out)) hb); (try clear hb); (try clear hb2); (try clear hk); (try clear hi)))
    go_ret
    exact ⟨by first | rfl | (simp [q05, q04] <;> rfl) | (simp [*, q05, q04] <;> rfl), by repeat (first | (with_reducible first | exact HB.out | apply bA | apply bN | apply bD | refine bS ?_ GE304.out | refine bS ?_ GE305.out) | exact HB.out)⟩
def span_Text.l0 : Nat → ByteArray → List Int → Int → Int → List (S43) → Bool → Int → Int → Int → Int → List (S43) → Bool → Option (ByteArray × Int)
 | 0, _, _, _, _, _, _, _, _, _, _, _, _ => none
 | k + 1, x10, x27, x28, x29, x310000, x310001, x311000, x311001, x311002, x311003, x317000, x317001 => if x29 < x28 then (if 0 ≤ x29 then (if x29 < (x27.length : Int) then (if 0 ≤ (rd x27 x29) then (if (rd x27 x29) < (x310000.length : Int) then (if ((q00 x310000 (rd x27 x29)).f0) = 3 then ((span_ranger_part.f k x317000 x317001 (rd x27 x29) x311000 x311001 x311002 x311003).bind fun t323 => (if x10.size + t323.size ≤ 9223372036854775807 then (span_Text.l0 k (x10 ++ t323) x27 x28 (wrap64 (x29 + 1)) x310000 x310001 x311000 x311001 x311002 x311003 x317000 x317001) else (none))) else (span_Text.l0 k x10 x27 x28 (wrap64 (x29 + 1)) x310000 x310001 x311000 x311001 x311002 x311003 x317000 x317001)) else (none)) else (none)) else (none)) else (none)) else (some (x10, 0))
def span_Text.f (k : Nat) (l0_0 : List (S43)) (a0_1 : Bool) (a1_0 : Int) (a1_1 : Int) (a1_2 : Int) (a1_3 : Int) : Option (ByteArray × Int) := (span_span.f k l0_0 a0_1 a1_0 a1_1 a1_2 a1_3).bind fun bt311 => (if bt311.2.2 = 0 then ((dom_Order.f k l0_0 a0_1).bind fun bt317 => (span_Text.l0 k (⟨#[]⟩ : ByteArray) bt317.1 (bt317.1.length : Int) 0 l0_0 a0_1 a1_0 a1_1 a1_2 a1_3 bt311.1 bt311.2.1)) else (some ((⟨#[]⟩ : ByteArray), bt311.2.2)))
theorem span_Text.mono_l : ∀ k, (∀ y0 y1 y2 y3 y4 y5 y6 y7 y8 y9 y10 y11, LeO (span_Text.l0 k y0 y1 y2 y3 y4 y5 y6 y7 y8 y9 y10 y11) (span_Text.l0 (k + 1) y0 y1 y2 y3 y4 y5 y6 y7 y8 y9 y10 y11))
 | 0 => fun _ _ _ _ _ _ _ _ _ _ _ _ r h => by simp [span_Text.l0] at h
 | k + 1 => by
  have ih0 := span_Text.mono_l k
  ·intro y0 y1 y2 y3 y4 y5 y6 y7 y8 y9 y10 y11
   unfold span_Text.l0
   repeat' first | with_reducible first | apply ih0 | apply dom_Order.mono | apply span_ranger_part.mono | apply span_span.mono | exact LeO.refl _ | exact LeO.none _ | refine LeO.ite ?_ ?_ | refine LeO.bind ?_ (fun _ => ?_) | (first | apply ih0 | apply dom_Order.mono | apply span_ranger_part.mono | apply span_span.mono | exact LeO.none _ | refine LeO.ite ?_ ?_ | refine LeO.bind ?_ (fun _ => ?_))
theorem span_Text.mono : ∀ a0 a1 a2 a3 a4 a5 k, LeO (span_Text.f k a0 a1 a2 a3 a4 a5) (span_Text.f (k + 1) a0 a1 a2 a3 a4 a5) := by
 intro a0 a1 a2 a3 a4 a5 k
 have ih0 := span_Text.mono_l k
 unfold span_Text.f
 repeat' first | with_reducible first | apply ih0 | apply dom_Order.mono | apply span_ranger_part.mono | apply span_span.mono | exact LeO.refl _ | exact LeO.none _ | refine LeO.ite ?_ ?_ | refine LeO.bind ?_ (fun _ => ?_) | (first | apply ih0 | apply dom_Order.mono | apply span_ranger_part.mono | apply span_span.mono | exact LeO.none _ | refine LeO.ite ?_ ?_ | refine LeO.bind ?_ (fun _ => ?_))
set_option maxHeartbeats 8000000 in
set_option maxRecDepth 100000 in
theorem span_Text.calls (k : Nat) (A0_0 : Option Addr) (c0_0 : Nat) (l0_0 : List (S43)) (a0_1 : Bool) (a1_0 : Int) (a1_1 : Int) (a1_2 : Int) (a1_3 : Int) (r1 : ByteArray) (r2 : Int) (w : World) (hr0_0 : Kd.C k43 w A0_0 l0_0.length l0_0) (hc0_0 : l0_0.length ≤ c0_0) (h : span_Text.f k l0_0 a0_1 a1_0 a1_1 a1_2 a1_3 = some (r1, r2)) :
 Calls Tryd.prog 38 #[.agg #[.slice A0_0 l0_0.length c0_0, .bool a0_1], .agg #[.int .i64 a1_0, .int .i64 a1_1, .int .i64 a1_2, .int .i64 a1_3]] w fun e w' => e = .returned (.tuple #[.string r1, .int .i64 r2]) ∧ Below w.heap.size w w' := by
 have hu24 := Tryd.underlying24
 have hu52 := Tryd.underlying52
 have hu124 := Tryd.underlying124
 have HR0_0 := aS hr0_0
 have HC0_0 := aS hc0_0
 clear hr0_0 hc0_0
 have HB := aS (Below.refl w.heap.size w)
 have H := h; clear h; unfold span_Text.f at H
 replace H := iB H
 obtain ⟨⟨t311, t314, t315⟩, A3, H⟩ := H
 try dsimp only at H
 refine iE H ?p4 ?n4 <;> clear H
 case' p4 => intro c4b0 c4b1 H
 case' n4 => intro c4 c4b0 c4b1 H
 case p4 =>
  replace H := iB H
  obtain ⟨⟨t317, t320⟩, A5, H⟩ := H
  try dsimp only at H
  have H' := aS H
  clear H
  go_enter Tryd.func38, Tryd.ntmps38
  go_wp2_with (first | ((with_reducible refine q07 (N := 2) rfl ?_); refine box0 rfl (N := 2) rfl (cs := #[.slice A0_0 l0_0.length c0_0, .bool a0_1]) (t := 24) zh (z7 HB.out) ?_; clear HB; intro gb309 w6 BK309 GW309 HB; have GE309 := GW309) | ((with_reducible refine q07 (N := 3) rfl ?_); refine q0j ?hg (N := 3) ?hd (cs := #[.int .i64 a1_0, .int .i64 a1_1, .int .i64 a1_2, .int .i64 a1_3]) (t := 52) ?hr ?_; (case hd => rfl); (case hg => rfl); (case hr => first | (go_simp; done) | (go_simp; rfl)); intro gb310 hg w7 hbox hb; have n0_ := aS (q01 (g := gb309) (o := .cells #[.slice A0_0 l0_0.length c0_0, .bool a0_1] 24 (0, 0)) (za BK309.out) hb); have n1_ := aS (q02 (z6 HB.out GE309.out) hb); have n2_ := aS (hbox); have n3_ := aS ((by rw [hg]; exact (q06 (z6 HB.out GE309.out)) : w.heap.size ≤ gb310)); have n4_ := aS ((by rw [hg]; exact (q06 (z6 HB.out GE309.out)) : w.heap.size ≤ gb310)); have n5_ := aS ((by rw [hg]; exact Nat.ne_of_lt (q0i (g := gb309) (o := .cells #[.slice A0_0 l0_0.length c0_0, .bool a0_1] 24 (0, 0)) (za BK309.out)) : gb309 ≠ gb310)); have n6_ := aS ((by rw [hg]; exact Nat.ne_of_gt (q0i (g := gb309) (o := .cells #[.slice A0_0 l0_0.length c0_0, .bool a0_1] 24 (0, 0)) (za BK309.out)) : gb310 ≠ gb309)); clear BK309; clear HB; have BK309 := n0_; have HB := n1_; have BK310 := n2_; have GW310 := n3_; have GE310 := n4_; have NB309_310 := n5_; have NB310_309 := n6_; clear n0_ n1_ n2_ n3_ n4_ n5_ n6_; clear hb hbox hg; have hnb8 := NB309_310.out; have hnc8 := NB310_309.out; obtain ⟨hczL_0, hczL_1, hfzL_0, hfzL_1⟩ := bk2 BK309.out; obtain ⟨hczL_0, hczL_1, hczL_2, hczL_3, hfzL_0, hfzL_1, hfzL_2, hfzL_3⟩ := bk4 BK310.out) | ((with_reducible refine q08 (f := 82) rfl ?_); refine q0n (some 16) rfl rfl Tryd.func82 (by kernel_rfl) rfl #[.agg #[.slice A0_0 l0_0.length c0_0, .bool a0_1], .agg #[.int .i64 a1_0, .int .i64 a1_1, .int .i64 a1_2, .int .i64 a1_3]] rfl zc ?_; (with_reducible refine (span_span.calls k (fun k_ => k_ < w.heap.size) _ _ l0_0 a0_1 a1_0 a1_1 a1_2 a1_3 t311 t314 t315 _ ?side1 A3.out).mono ?_); (case side1 => exact Kd.V_mk HC0_0.out (Kd.F_below (Kd.C_F k43_heap HR0_0.out) (by repeat (first | (with_reducible first | exact HB.out | apply bA | apply bN | apply bD | refine bS ?_ GE309.out | refine bS ?_ GE310.out) | exact HB.out)))); rintro e w11 ⟨v312, rfl, ho0, hb⟩; refine ⟨_, rfl, ?_⟩; have HO313 := aS (Kd.V_lower (Kd.V_mono (ok' := fun k_ => k_ ≠ gb309 ∧ k_ ≠ gb310) ho0 (fun k_ hk_ => ⟨Or.elim hk_ (fun hs_ => fun e_ => Nat.not_le.2 hs_ (by rw [e_]; exact GW309.out)) (fun hn_ => (Kd.freshB (g := gb309) (o := .cells #[.slice A0_0 l0_0.length c0_0, .bool a0_1] 24 (0, 0)) (za BK309.out) k_ hn_)), Or.elim hk_ (fun hs_ => fun e_ => Nat.not_le.2 hs_ (by rw [e_]; exact GW310.out)) (fun hn_ => (Kd.freshB (g := gb310) (o := .cells #[.int .i64 a1_0, .int .i64 a1_1, .int .i64 a1_2, .int .i64 a1_3] 52 (0, 0)) (za BK310.out) k_ hn_))⟩)) (q06 (by repeat (first | (with_reducible first | exact HB.out | apply bA | apply bN | apply bD | refine bS ?_ GE309.out | refine bS ?_ GE310.out) | exact HB.out)))); replace BK309 := aS (q01 (g := gb309) (o := .cells #[.slice A0_0 l0_0.length c0_0, .bool a0_1] 24 (0, 0)) (za BK309.out) hb); replace BK310 := aS (q01 (g := gb310) (o := .cells #[.int .i64 a1_0, .int .i64 a1_1, .int .i64 a1_2, .int .i64 a1_3] 52 (0, 0)) (za BK310.out) hb); replace HB := aS (q02 (by repeat (first | (with_reducible first | exact HB.out | apply bA | apply bN | apply bD | refine bS ?_ GE309.out | refine bS ?_ GE310.out) | exact HB.out)) hb); (try clear hb); (try clear hb2); (try clear hk); (try clear hi); (try clear ho0)) | ((with_reducible refine q07 (N := 6) rfl ?_); refine q0j ?hg (N := 6) ?hd (cs := #[.slice none 0 0, .bool false]) (t := 124) ?hr ?_; (case hd => rfl); (case hg => rfl); (case hr => first | (go_simp; done) | (go_simp; rfl)); intro gb316 hg w12 hbox hb; have n0_ := aS (Kd.V_below (Kd.V_elderB (ze HO313.out) gb316 (Nat.le_of_eq hg.symm)) hb); have n1_ := aS (q01 (g := gb309) (o := .cells #[.slice A0_0 l0_0.length c0_0, .bool a0_1] 24 (0, 0)) (za BK309.out) hb); have n2_ := aS (q01 (g := gb310) (o := .cells #[.int .i64 a1_0, .int .i64 a1_1, .int .i64 a1_2, .int .i64 a1_3] 52 (0, 0)) (za BK310.out) hb); have n3_ := aS (q02 (by repeat (first | (with_reducible first | exact HB.out | apply bA | apply bN | apply bD | refine bS ?_ GE309.out | refine bS ?_ GE310.out) | exact HB.out)) hb); have n4_ := aS (hbox); have n5_ := aS ((by rw [hg]; exact (q06 (by repeat (first | (with_reducible first | exact HB.out | apply bA | apply bN | apply bD | refine bS ?_ GE309.out | refine bS ?_ GE310.out) | exact HB.out))) : w.heap.size ≤ gb316)); have n6_ := aS ((by rw [hg]; exact (q06 (by repeat (first | (with_reducible first | exact HB.out | apply bA | apply bN | apply bD | refine bS ?_ GE309.out | refine bS ?_ GE310.out) | exact HB.out))) : w.heap.size ≤ gb316)); have n7_ := aS ((by rw [hg]; exact Nat.ne_of_lt (q0i (g := gb309) (o := .cells #[.slice A0_0 l0_0.length c0_0, .bool a0_1] 24 (0, 0)) (za BK309.out)) : gb309 ≠ gb316)); have n8_ := aS ((by rw [hg]; exact Nat.ne_of_gt (q0i (g := gb309) (o := .cells #[.slice A0_0 l0_0.length c0_0, .bool a0_1] 24 (0, 0)) (za BK309.out)) : gb316 ≠ gb309)); have n9_ := aS ((by rw [hg]; exact Nat.ne_of_lt (q0i (g := gb310) (o := .cells #[.int .i64 a1_0, .int .i64 a1_1, .int .i64 a1_2, .int .i64 a1_3] 52 (0, 0)) (za BK310.out)) : gb310 ≠ gb316)); have n10_ := aS ((by rw [hg]; exact Nat.ne_of_gt (q0i (g := gb310) (o := .cells #[.int .i64 a1_0, .int .i64 a1_1, .int .i64 a1_2, .int .i64 a1_3] 52 (0, 0)) (za BK310.out)) : gb316 ≠ gb310)); clear HO313; clear BK309; clear BK310; clear HB; have HO313 := n0_; have BK309 := n1_; have BK310 := n2_; have HB := n3_; have BK316 := n4_; have GW316 := n5_; have GE316 := n6_; have NB309_316 := n7_; have NB316_309 := n8_; have NB310_316 := n9_; have NB316_310 := n10_; clear n0_ n1_ n2_ n3_ n4_ n5_ n6_ n7_ n8_ n9_ n10_; clear hb hbox hg; obtain ⟨Ao13, co13, eo13⟩ := Kd.V_slice HO313.out; subst eo13; have hnb14 := NB316_309.out; have hnc14 := NB309_316.out; have hnb15 := NB316_310.out; have hnc15 := NB310_316.out; obtain ⟨hczL_0, hczL_1, hfzL_0, hfzL_1⟩ := bk2 BK316.out; obtain ⟨hczL_0, hczL_1, hfzL_0, hfzL_1⟩ := bk2 BK309.out) | ((with_reducible refine q08 (f := 59) rfl ?_); refine q0n (some 24) rfl rfl Tryd.func59 (by kernel_rfl) rfl #[.agg #[.slice A0_0 l0_0.length c0_0, .bool a0_1]] rfl zc ?_; (with_reducible refine (dom_Order.calls k _ _ l0_0 a0_1 t317 t320 _ ?side1 ?side2 A5.out).mono ?_); (case side1 => exact Kd.C_below HR0_0.out (by repeat (first | (with_reducible first | exact HB.out | apply bA | apply bN | apply bD | refine bS ?_ GE309.out | refine bS ?_ GE310.out | refine bS ?_ GE316.out) | exact HB.out))); (case side2 => exact HC0_0.out); rintro e w18 ⟨v318, rfl, ho0, hb⟩; refine ⟨_, rfl, ?_⟩; replace HO313 := aS (Kd.V_elder' (by (with_reducible repeat (first | apply vA | apply vN | apply vD)); exact (Kd.V_mono (Kd.V_far (p := ⟨gb316, 1, none⟩) (Kd.V_far (p := ⟨gb316, 0, none⟩) (Kd.V_mono HO313.out (fun k_ hk => (⟨hk, hk.2⟩ : _ ∧ k_ ≠ gb316))) (fun _ hk => hk.2) (.slice Ao13 t311.length co13)) (fun _ hk => hk.2) (.bool t314)) (fun _ h_ => h_.1))) (Kd.R_base ho0) hb); have HO319 := aS (Kd.R_lower ho0 (q06 (by repeat (first | (with_reducible first | exact HB.out | apply bA | apply bN | apply bD | refine bS ?_ GE309.out | refine bS ?_ GE310.out | refine bS ?_ GE316.out) | exact HB.out)))); replace BK309 := aS (q01 (g := gb309) (o := .cells #[.slice A0_0 l0_0.length c0_0, .bool a0_1] 24 (0, 0)) (by (with_reducible repeat (first | refine kN ?_ _ | refine kD ?_ | refine kA ?_ _)); refine q0d ?_ NB309_316.out _; (with_reducible repeat (first | refine kN ?_ _ | refine kD ?_ | refine kA ?_ _)); refine q0d ?_ NB309_316.out _; (with_reducible repeat (first | refine kN ?_ _ | refine kD ?_ | refine kA ?_ _)); exact BK309.out) hb); replace BK310 := aS (q01 (g := gb310) (o := .cells #[.int .i64 a1_0, .int .i64 a1_1, .int .i64 a1_2, .int .i64 a1_3] 52 (0, 0)) (by (with_reducible repeat (first | refine kN ?_ _ | refine kD ?_ | refine kA ?_ _)); refine q0d ?_ NB310_316.out _; (with_reducible repeat (first | refine kN ?_ _ | refine kD ?_ | refine kA ?_ _)); refine q0d ?_ NB310_316.out _; (with_reducible repeat (first | refine kN ?_ _ | refine kD ?_ | refine kA ?_ _)); exact BK310.out) hb); replace BK316 := aS (q01 (g := gb316) (o := .cells #[.slice Ao13 t311.length co13, .bool t314] 124 (0, 0)) (by (with_reducible repeat (first | refine kN ?_ _ | refine kD ?_ | refine kA ?_ _)); refine q0h (cs := #[.slice Ao13 t311.length co13, .bool false]) ?_ 1 _ rfl; (with_reducible repeat (first | refine kN ?_ _ | refine kD ?_ | refine kA ?_ _)); refine q0h (cs := #[.slice none 0 0, .bool false]) ?_ 0 _ rfl; (with_reducible repeat (first | refine kN ?_ _ | refine kD ?_ | refine kA ?_ _)); exact BK316.out) hb); replace HB := aS (q02 (by repeat (first | (with_reducible first | exact HB.out | apply bA | apply bN | apply bD | refine bS ?_ GE309.out | refine bS ?_ GE310.out | refine bS ?_ GE316.out) | exact HB.out)) hb); (try clear hb); (try clear hb2); (try clear hk); (try clear hi); (try clear ho0); obtain ⟨Ao19, co19, eo19⟩ := Kd.R_slice HO319.out; subst eo19))
  go_loopg [10, 29] k (fun kq v10 v29 w' => ∃ (x10_1 : ByteArray) (x29_1 : Int), v10 = .string x10_1 ∧ v29 = .int .i64 x29_1 ∧ Aside0 (span_Text.l0 kq x10_1 t317 (t317.length : Int) x29_1 l0_0 a0_1 a1_0 a1_1 a1_2 a1_3 t311 t314 = some (r1, r2)) ∧ Aside0 (kq ≤ k) ∧ Aside0 (Kd.R (Kd.int .i64) 3 w' w.heap.size (fun _ => True) (.slice Ao19 t317.length co19) t317) ∧ Aside0 (Kd.V k43 43 w' w.heap.size (fun k_ => some k_ ≠ ((.slice Ao19 t317.length co19) : Value).ownBlock ∧ k_ ≠ gb309 ∧ k_ ≠ gb310 ∧ k_ ≠ gb316) (.slice Ao13 t311.length co13) t311) ∧ Aside0 (w'.heap[gb309]? = some (.cells #[(.slice A0_0 l0_0.length c0_0), .bool a0_1] 24 (0, 0))) ∧ Aside0 (w'.heap[gb310]? = some (.cells #[.int .i64 a1_0, .int .i64 a1_1, .int .i64 a1_2, .int .i64 a1_3] 52 (0, 0))) ∧ Aside0 (w'.heap[gb316]? = some (.cells #[(.slice Ao13 t311.length co13), .bool t314] 124 (0, 0))) ∧ Aside0 (Below w.heap.size w w'))
  case atStart => exact ⟨((⟨#[]⟩ : ByteArray)), (0), zi, zi, H', ⟨Nat.le_refl _⟩, ⟨by (with_reducible repeat (first | apply rA | apply rN | apply rD)); exact HO319.out⟩, ⟨by (with_reducible repeat (first | apply vA | apply vN | apply vD)); exact Kd.V_mono HO313.out (fun _ hk => ⟨hk.2, ⟨hk.1.1.1, ⟨hk.1.1.2, hk.1.2⟩⟩⟩)⟩, ⟨by (with_reducible repeat (first | refine kN ?_ _ | refine kD ?_ | refine kA ?_ _)); exact BK309.out⟩, ⟨by (with_reducible repeat (first | refine kN ?_ _ | refine kD ?_ | refine kA ?_ _)); exact BK310.out⟩, ⟨by (with_reducible repeat (first | refine kN ?_ _ | refine kD ?_ | refine kA ?_ _)); exact BK316.out⟩, ⟨by repeat (first | (with_reducible first | exact HB.out | apply bA | apply bN | apply bD | refine bS ?_ GE309.out | refine bS ?_ GE310.out | refine bS ?_ GE316.out) | exact HB.out)⟩⟩
  case round =>
   clear H'
   obtain ⟨x10_1, x29_1, rfl, rfl, HA, HK1, HO_27, HO_317000, BK309, BK310, BK316, HB⟩ := hrel
   cases gk with
   | zero => exact absurd HA.out (by simp [span_Text.l0])
   | succ k1 =>
    have H := HA.out
    clear HA
    simp only [span_Text.l0] at H
    refine iT H ?p20 ?n20 <;> clear H
    case' p20 => intro c20b0 H; refine iLp H ?_; clear H; intro c21b0 H; refine iTp H ?_; clear H; intro c22b0 H; refine iLp H ?_; clear H; intro c23b0 H; refine iTp H ?_; clear H; intro c24b0 H; refine iE H ?p25 ?n25 <;> clear H
    case' p25 => intro c25b0 c25b1 H; replace H := iB H; obtain ⟨t323, A26, H⟩ := H; refine iGp H ?_; clear H; intro c27 H; have c27b0 := eq_true c27; have c27b1 : decide (x10_1.size + t323.size ≤ 9223372036854775807) = true := decide_eq_true c27
    case' n25 => intro c25 c25b0 c25b1 H
    case' n20 => intro c20b0 H
    case p25 =>
     try have c27b2 : (9223372036854775807 < x10_1.size + t323.size) = False := eq_false (Nat.not_lt.2 c27)
     have H' := aS H
     clear H
     obtain ⟨ad321, e321, hx321_0, p321, q321⟩ := atIA (Kd.R_reads' HO_27.out).2.2 x29_1 zb zb
     cases e321
     have hnb28 := NB309_310.out
     have hnc28 := NB310_309.out
     have hnb29 := NB309_316.out
     have hnc29 := NB316_309.out
     obtain ⟨hczL_0, hczL_1, hfzL_0, hfzL_1⟩ := bk2 BK309.out
     obtain ⟨ad322, A322_2, c322_2, A322_5, c322_5, e322, hx322_0, hx322_1, hx322_2, hx322_3, hx322_4, hx322_5, HC322_2, HR322_2, HC322_5, HR322_5, p322, q322⟩ := q0o HB.out HR0_0.out (rd t317 x29_1) zb zb
     cases e322
     have hnb31 := NB316_310.out
     have hnc31 := NB310_316.out
     obtain ⟨hczL_0, hczL_1, hfzL_0, hfzL_1⟩ := bk2 BK316.out
     obtain ⟨hczL_0, hczL_1, hczL_2, hczL_3, hfzL_0, hfzL_1, hfzL_2, hfzL_3⟩ := bk4 BK310.out
     go_wp2_with (first | ((with_reducible refine q08 (f := 89) rfl ?_); refine q0n (some 44) rfl rfl Tryd.func89 (by kernel_rfl) rfl #[.agg #[.slice Ao13 t311.length co13, .bool t314], .int .i64 (rd t317 x29_1), .agg #[.int .i64 a1_0, .int .i64 a1_1, .int .i64 a1_2, .int .i64 a1_3]] rfl zc ?_; (with_reducible refine (span_ranger_part.calls k1 _ _ t311 t314 (rd t317 x29_1) a1_0 a1_1 a1_2 a1_3 t323 _ ?side1 ?side2 A26.out).mono ?_); (case side1 => repeat (first | exact (Kd.V_reads' HO_317000.out).2.2 | (with_reducible refine cA ?_ _) | (with_reducible refine cN ?_ _) | (with_reducible refine cD ?_))); (case side2 => exact (Kd.V_reads' HO_317000.out).2.1); rintro e w34 ⟨rfl, hb⟩; refine ⟨_, rfl, ?_⟩; replace HO_27 := aS (Kd.R_below (zf HO_27.out) hb); replace HO_317000 := aS (Kd.V_below (ze HO_317000.out) hb); replace BK309 := aS (q01 (g := gb309) (o := .cells #[.slice (some ad322) l0_0.length c0_0, .bool a0_1] 24 (0, 0)) (za BK309.out) hb); replace BK310 := aS (q01 (g := gb310) (o := .cells #[.int .i64 a1_0, .int .i64 a1_1, .int .i64 a1_2, .int .i64 a1_3] 52 (0, 0)) (za BK310.out) hb); replace BK316 := aS (q01 (g := gb316) (o := .cells #[.slice Ao13 t311.length co13, .bool t314] 124 (0, 0)) (za BK316.out) hb); replace HB := aS (q02 (by repeat (first | (with_reducible first | exact HB.out | apply bA | apply bN | apply bD | refine bS ?_ GE309.out | refine bS ?_ GE310.out | refine bS ?_ GE316.out) | exact HB.out)) hb); (try clear hb); (try clear hb2); (try clear hk); (try clear hi)))
     go_roundg k1
     case measure => have := HK1.out; omega
     case rel => exact ⟨(x10_1 ++ t323), (wrap64 (x29_1 + 1)), zi, zi, H', ⟨by have := HK1.out; omega⟩, ⟨by (with_reducible repeat (first | apply rA | apply rN | apply rD)); exact HO_27.out⟩, ⟨by (with_reducible repeat (first | apply vA | apply vN | apply vD)); exact HO_317000.out⟩, ⟨by (with_reducible repeat (first | refine kN ?_ _ | refine kD ?_ | refine kA ?_ _)); exact BK309.out⟩, ⟨by (with_reducible repeat (first | refine kN ?_ _ | refine kD ?_ | refine kA ?_ _)); exact BK310.out⟩, ⟨by (with_reducible repeat (first | refine kN ?_ _ | refine kD ?_ | refine kA ?_ _)); exact BK316.out⟩, ⟨by repeat (first | (with_reducible first | exact HB.out | apply bA | apply bN | apply bD | refine bS ?_ GE309.out | refine bS ?_ GE310.out | refine bS ?_ GE316.out) | exact HB.out)⟩⟩
    case n25 =>
     have H' := aS H
     clear H
     obtain ⟨ad321, e321, hx321_0, p321, q321⟩ := atIA (Kd.R_reads' HO_27.out).2.2 x29_1 zb zb
     cases e321
     have hnb35 := NB309_310.out
     have hnc35 := NB310_309.out
     have hnb36 := NB309_316.out
     have hnc36 := NB316_309.out
     obtain ⟨hczL_0, hczL_1, hfzL_0, hfzL_1⟩ := bk2 BK309.out
     obtain ⟨ad322, A322_2, c322_2, A322_5, c322_5, e322, hx322_0, hx322_1, hx322_2, hx322_3, hx322_4, hx322_5, HC322_2, HR322_2, HC322_5, HR322_5, p322, q322⟩ := q0o HB.out HR0_0.out (rd t317 x29_1) zb zb
     cases e322
     go_wp2
     go_roundg k1
     case measure => have := HK1.out; omega
     case rel => exact ⟨(x10_1), (wrap64 (x29_1 + 1)), zi, zi, H', ⟨by have := HK1.out; omega⟩, ⟨by (with_reducible repeat (first | apply rA | apply rN | apply rD)); exact HO_27.out⟩, ⟨by (with_reducible repeat (first | apply vA | apply vN | apply vD)); exact HO_317000.out⟩, ⟨by (with_reducible repeat (first | refine kN ?_ _ | refine kD ?_ | refine kA ?_ _)); exact BK309.out⟩, ⟨by (with_reducible repeat (first | refine kN ?_ _ | refine kD ?_ | refine kA ?_ _)); exact BK310.out⟩, ⟨by (with_reducible repeat (first | refine kN ?_ _ | refine kD ?_ | refine kA ?_ _)); exact BK316.out⟩, ⟨by repeat (first | (with_reducible first | exact HB.out | apply bA | apply bN | apply bD | refine bS ?_ GE309.out | refine bS ?_ GE310.out | refine bS ?_ GE316.out) | exact HB.out)⟩⟩
    case n20 =>
     simp only [Option.some.injEq, Prod.mk.injEq] at H
     obtain ⟨rfl, rfl⟩ := H
     go_wp2
     go_ret2
     exact ⟨by first | rfl | (simp [q05, q04] <;> rfl) | (simp [*, q05, q04] <;> rfl), by repeat (first | (with_reducible first | exact HB.out | apply bA | apply bN | apply bD | refine bS ?_ GE309.out | refine bS ?_ GE310.out | refine bS ?_ GE316.out) | exact HB.out)⟩
 case n4 =>
  simp only [Option.some.injEq, Prod.mk.injEq] at H
  obtain ⟨rfl, rfl⟩ := H
  go_enter Tryd.func38, Tryd.ntmps38
  go_wp2_with (first | ((with_reducible refine q07 (N := 2) rfl ?_); refine box0 rfl (N := 2) rfl (cs := #[.slice A0_0 l0_0.length c0_0, .bool a0_1]) (t := 24) zh (z7 HB.out) ?_; clear HB; intro gb309 w38 BK309 GW309 HB; have GE309 := GW309) | ((with_reducible refine q07 (N := 3) rfl ?_); refine q0j ?hg (N := 3) ?hd (cs := #[.int .i64 a1_0, .int .i64 a1_1, .int .i64 a1_2, .int .i64 a1_3]) (t := 52) ?hr ?_; (case hd => rfl); (case hg => rfl); (case hr => first | (go_simp; done) | (go_simp; rfl)); intro gb310 hg w39 hbox hb; have n0_ := aS (q01 (g := gb309) (o := .cells #[.slice A0_0 l0_0.length c0_0, .bool a0_1] 24 (0, 0)) (za BK309.out) hb); have n1_ := aS (q02 (z6 HB.out GE309.out) hb); have n2_ := aS (hbox); have n3_ := aS ((by rw [hg]; exact (q06 (z6 HB.out GE309.out)) : w.heap.size ≤ gb310)); have n4_ := aS ((by rw [hg]; exact (q06 (z6 HB.out GE309.out)) : w.heap.size ≤ gb310)); have n5_ := aS ((by rw [hg]; exact Nat.ne_of_lt (q0i (g := gb309) (o := .cells #[.slice A0_0 l0_0.length c0_0, .bool a0_1] 24 (0, 0)) (za BK309.out)) : gb309 ≠ gb310)); have n6_ := aS ((by rw [hg]; exact Nat.ne_of_gt (q0i (g := gb309) (o := .cells #[.slice A0_0 l0_0.length c0_0, .bool a0_1] 24 (0, 0)) (za BK309.out)) : gb310 ≠ gb309)); clear BK309; clear HB; have BK309 := n0_; have HB := n1_; have BK310 := n2_; have GW310 := n3_; have GE310 := n4_; have NB309_310 := n5_; have NB310_309 := n6_; clear n0_ n1_ n2_ n3_ n4_ n5_ n6_; clear hb hbox hg; have hnb40 := NB309_310.out; have hnc40 := NB310_309.out; obtain ⟨hczL_0, hczL_1, hfzL_0, hfzL_1⟩ := bk2 BK309.out; obtain ⟨hczL_0, hczL_1, hczL_2, hczL_3, hfzL_0, hfzL_1, hfzL_2, hfzL_3⟩ := bk4 BK310.out) | ((with_reducible refine q08 (f := 82) rfl ?_); refine q0n (some 16) rfl rfl Tryd.func82 (by kernel_rfl) rfl #[.agg #[.slice A0_0 l0_0.length c0_0, .bool a0_1], .agg #[.int .i64 a1_0, .int .i64 a1_1, .int .i64 a1_2, .int .i64 a1_3]] rfl zc ?_; (with_reducible refine (span_span.calls k (fun k_ => k_ < w.heap.size) _ _ l0_0 a0_1 a1_0 a1_1 a1_2 a1_3 t311 t314 t315 _ ?side1 A3.out).mono ?_); (case side1 => exact Kd.V_mk HC0_0.out (Kd.F_below (Kd.C_F k43_heap HR0_0.out) (by repeat (first | (with_reducible first | exact HB.out | apply bA | apply bN | apply bD | refine bS ?_ GE309.out | refine bS ?_ GE310.out) | exact HB.out)))); rintro e w43 ⟨v312, rfl, ho0, hb⟩; refine ⟨_, rfl, ?_⟩; have HO313 := aS (Kd.V_lower (Kd.V_mono (ok' := fun k_ => k_ ≠ gb309 ∧ k_ ≠ gb310) ho0 (fun k_ hk_ => ⟨Or.elim hk_ (fun hs_ => fun e_ => Nat.not_le.2 hs_ (by rw [e_]; exact GW309.out)) (fun hn_ => (Kd.freshB (g := gb309) (o := .cells #[.slice A0_0 l0_0.length c0_0, .bool a0_1] 24 (0, 0)) (za BK309.out) k_ hn_)), Or.elim hk_ (fun hs_ => fun e_ => Nat.not_le.2 hs_ (by rw [e_]; exact GW310.out)) (fun hn_ => (Kd.freshB (g := gb310) (o := .cells #[.int .i64 a1_0, .int .i64 a1_1, .int .i64 a1_2, .int .i64 a1_3] 52 (0, 0)) (za BK310.out) k_ hn_))⟩)) (q06 (by repeat (first | (with_reducible first | exact HB.out | apply bA | apply bN | apply bD | refine bS ?_ GE309.out | refine bS ?_ GE310.out) | exact HB.out)))); replace BK309 := aS (q01 (g := gb309) (o := .cells #[.slice A0_0 l0_0.length c0_0, .bool a0_1] 24 (0, 0)) (za BK309.out) hb); replace BK310 := aS (q01 (g := gb310) (o := .cells #[.int .i64 a1_0, .int .i64 a1_1, .int .i64 a1_2, .int .i64 a1_3] 52 (0, 0)) (za BK310.out) hb); replace HB := aS (q02 (by repeat (first | (with_reducible first | exact HB.out | apply bA | apply bN | apply bD | refine bS ?_ GE309.out | refine bS ?_ GE310.out) | exact HB.out)) hb); (try clear hb); (try clear hb2); (try clear hk); (try clear hi); (try clear ho0)) | ((with_reducible refine q07 (N := 6) rfl ?_); refine q0j ?hg (N := 6) ?hd (cs := #[.slice none 0 0, .bool false]) (t := 124) ?hr ?_; (case hd => rfl); (case hg => rfl); (case hr => first | (go_simp; done) | (go_simp; rfl)); intro gb316 hg w44 hbox hb; have n0_ := aS (Kd.V_below (Kd.V_elderB (ze HO313.out) gb316 (Nat.le_of_eq hg.symm)) hb); have n1_ := aS (q01 (g := gb309) (o := .cells #[.slice A0_0 l0_0.length c0_0, .bool a0_1] 24 (0, 0)) (za BK309.out) hb); have n2_ := aS (q01 (g := gb310) (o := .cells #[.int .i64 a1_0, .int .i64 a1_1, .int .i64 a1_2, .int .i64 a1_3] 52 (0, 0)) (za BK310.out) hb); have n3_ := aS (q02 (by repeat (first | (with_reducible first | exact HB.out | apply bA | apply bN | apply bD | refine bS ?_ GE309.out | refine bS ?_ GE310.out) | exact HB.out)) hb); have n4_ := aS (hbox); have n5_ := aS ((by rw [hg]; exact (q06 (by repeat (first | (with_reducible first | exact HB.out | apply bA | apply bN | apply bD | refine bS ?_ GE309.out | refine bS ?_ GE310.out) | exact HB.out))) : w.heap.size ≤ gb316)); have n6_ := aS ((by rw [hg]; exact (q06 (by repeat (first | (with_reducible first | exact HB.out | apply bA | apply bN | apply bD | refine bS ?_ GE309.out | refine bS ?_ GE310.out) | exact HB.out))) : w.heap.size ≤ gb316)); have n7_ := aS ((by rw [hg]; exact Nat.ne_of_lt (q0i (g := gb309) (o := .cells #[.slice A0_0 l0_0.length c0_0, .bool a0_1] 24 (0, 0)) (za BK309.out)) : gb309 ≠ gb316)); have n8_ := aS ((by rw [hg]; exact Nat.ne_of_gt (q0i (g := gb309) (o := .cells #[.slice A0_0 l0_0.length c0_0, .bool a0_1] 24 (0, 0)) (za BK309.out)) : gb316 ≠ gb309)); have n9_ := aS ((by rw [hg]; exact Nat.ne_of_lt (q0i (g := gb310) (o := .cells #[.int .i64 a1_0, .int .i64 a1_1, .int .i64 a1_2, .int .i64 a1_3] 52 (0, 0)) (za BK310.out)) : gb310 ≠ gb316)); have n10_ := aS ((by rw [hg]; exact Nat.ne_of_gt (q0i (g := gb310) (o := .cells #[.int .i64 a1_0, .int .i64 a1_1, .int .i64 a1_2, .int .i64 a1_3] 52 (0, 0)) (za BK310.out)) : gb316 ≠ gb310)); clear HO313; clear BK309; clear BK310; clear HB; have HO313 := n0_; have BK309 := n1_; have BK310 := n2_; have HB := n3_; have BK316 := n4_; have GW316 := n5_; have GE316 := n6_; have NB309_316 := n7_; have NB316_309 := n8_; have NB310_316 := n9_; have NB316_310 := n10_; clear n0_ n1_ n2_ n3_ n4_ n5_ n6_ n7_ n8_ n9_ n10_; clear hb hbox hg; obtain ⟨Ao45, co45, eo45⟩ := Kd.V_slice HO313.out; subst eo45; have hnb46 := NB316_309.out; have hnc46 := NB309_316.out; have hnb47 := NB316_310.out; have hnc47 := NB310_316.out; obtain ⟨hczL_0, hczL_1, hfzL_0, hfzL_1⟩ := bk2 BK316.out))
  go_ret2
  exact ⟨by first | rfl | (simp [q05, q04] <;> rfl) | (simp [*, q05, q04] <;> rfl), by repeat (first | (with_reducible first | exact HB.out | apply bA | apply bN | apply bD | refine bS ?_ GE309.out | refine bS ?_ GE310.out | refine bS ?_ GE316.out) | exact HB.out)⟩
def clerestorylaw1_oneP.f  : Option ((List (S43)) × Bool) := some ((([(⟨1, (⟨#[]⟩ : ByteArray), ([] : List (S122)), (⟨#[]⟩ : ByteArray), (-1), (([1] : List Int))⟩ : S43), (⟨2, (⟨#[112]⟩ : ByteArray), (([(⟨(⟨#[97]⟩ : ByteArray), (⟨#[34]⟩ : ByteArray)⟩ : S122)] : List (S122))), (⟨#[]⟩ : ByteArray), 0, (([2] : List Int))⟩ : S43), (⟨3, (⟨#[]⟩ : ByteArray), ([] : List (S122)), (⟨#[60, 10]⟩ : ByteArray), 1, ([] : List Int)⟩ : S43)] : List (S43))), false)
set_option maxHeartbeats 8000000 in
set_option maxRecDepth 100000 in
theorem clerestorylaw1_oneP.calls  (r1 : List (S43)) (r2 : Bool) (w : World) (h : clerestorylaw1_oneP.f  = some (r1, r2)) :
 Calls Tryd.prog 75 #[] w fun e w' => ∃ v0_ : Value, e = .returned (.agg #[v0_, .bool r2]) ∧ Kd.N k43 43 w' w.heap.size (fun k_ => (w.heap.size ≤ k_)) v0_ r1 ∧ Below w.heap.size w w' := by
 have hu24 := Tryd.underlying24
 have hu43 := Tryd.underlying43
 have hu122 := Tryd.underlying122
 have HB := aS (Below.refl w.heap.size w)
 have H := h; clear h; unfold clerestorylaw1_oneP.f at H
 obtain ⟨y325, hy325⟩ : ∃ y_ : List Int, y_ = (([1] : List Int)) := ⟨_, rfl⟩
 replace H : (some ((([(⟨1, (⟨#[]⟩ : ByteArray), ([] : List (S122)), (⟨#[]⟩ : ByteArray), (-1), y325⟩ : S43), (⟨2, (⟨#[112]⟩ : ByteArray), (([(⟨(⟨#[97]⟩ : ByteArray), (⟨#[34]⟩ : ByteArray)⟩ : S122)] : List (S122))), (⟨#[]⟩ : ByteArray), 0, (([2] : List Int))⟩ : S43), (⟨3, (⟨#[]⟩ : ByteArray), ([] : List (S122)), (⟨#[60, 10]⟩ : ByteArray), 1, ([] : List Int)⟩ : S43)] : List (S43))), false)) = some (r1, r2) := by first | (rw [hy325]; with_reducible exact H) | (have H2_ := (Option.bind_some _ _).symm.trans H; rw [hy325]; with_reducible exact H2_) | (have H2_ := (Option.bind_some _ _).symm.trans H; with_reducible exact H2_) | with_reducible exact H | (rw [hy325]; exact H) | exact H
 have Ny325 := aS hy325
 clear hy325
 obtain ⟨y328, hy328⟩ : ∃ y_ : List (S122), y_ = (([(⟨(⟨#[97]⟩ : ByteArray), (⟨#[34]⟩ : ByteArray)⟩ : S122)] : List (S122))) := ⟨_, rfl⟩
 replace H : (some ((([(⟨1, (⟨#[]⟩ : ByteArray), ([] : List (S122)), (⟨#[]⟩ : ByteArray), (-1), y325⟩ : S43), (⟨2, (⟨#[112]⟩ : ByteArray), y328, (⟨#[]⟩ : ByteArray), 0, (([2] : List Int))⟩ : S43), (⟨3, (⟨#[]⟩ : ByteArray), ([] : List (S122)), (⟨#[60, 10]⟩ : ByteArray), 1, ([] : List Int)⟩ : S43)] : List (S43))), false)) = some (r1, r2) := by first | (rw [hy328]; with_reducible exact H) | (have H2_ := (Option.bind_some _ _).symm.trans H; rw [hy328]; with_reducible exact H2_) | (have H2_ := (Option.bind_some _ _).symm.trans H; with_reducible exact H2_) | with_reducible exact H | (rw [hy328]; exact H) | exact H
 have Ny328 := aS hy328
 clear hy328
 obtain ⟨y331, hy331⟩ : ∃ y_ : List Int, y_ = (([2] : List Int)) := ⟨_, rfl⟩
 replace H : (some ((([(⟨1, (⟨#[]⟩ : ByteArray), ([] : List (S122)), (⟨#[]⟩ : ByteArray), (-1), y325⟩ : S43), (⟨2, (⟨#[112]⟩ : ByteArray), y328, (⟨#[]⟩ : ByteArray), 0, y331⟩ : S43), (⟨3, (⟨#[]⟩ : ByteArray), ([] : List (S122)), (⟨#[60, 10]⟩ : ByteArray), 1, ([] : List Int)⟩ : S43)] : List (S43))), false)) = some (r1, r2) := by first | (rw [hy331]; with_reducible exact H) | (have H2_ := (Option.bind_some _ _).symm.trans H; rw [hy331]; with_reducible exact H2_) | (have H2_ := (Option.bind_some _ _).symm.trans H; with_reducible exact H2_) | with_reducible exact H | (rw [hy331]; exact H) | exact H
 have Ny331 := aS hy331
 clear hy331
 obtain ⟨y334, hy334⟩ : ∃ y_ : List (S43), y_ = (([(⟨1, (⟨#[]⟩ : ByteArray), ([] : List (S122)), (⟨#[]⟩ : ByteArray), (-1), y325⟩ : S43), (⟨2, (⟨#[112]⟩ : ByteArray), y328, (⟨#[]⟩ : ByteArray), 0, y331⟩ : S43), (⟨3, (⟨#[]⟩ : ByteArray), ([] : List (S122)), (⟨#[60, 10]⟩ : ByteArray), 1, ([] : List Int)⟩ : S43)] : List (S43))) := ⟨_, rfl⟩
 replace H : (some (y334, false)) = some (r1, r2) := by first | (rw [hy334]; with_reducible exact H) | (have H2_ := (Option.bind_some _ _).symm.trans H; rw [hy334]; with_reducible exact H2_) | (have H2_ := (Option.bind_some _ _).symm.trans H; with_reducible exact H2_) | with_reducible exact H | (rw [hy334]; exact H) | exact H
 have Ny334 := aS hy334
 clear hy334
 simp only [Option.some.injEq, Prod.mk.injEq] at H
 obtain ⟨rfl, rfl⟩ := H
 go_enter Tryd.func75, Tryd.ntmps75
 go_wp2_with (first | ((with_reducible refine q07 (N := 0) rfl ?_); refine box0 rfl (N := 0) rfl (cs := #[.slice none 0 0, .bool false]) (t := 24) zh (z7 HB.out) ?_; clear HB; intro gb324 w1 BK324 GW324 HB; have GE324 := GW324) | ((with_reducible refine q07 (N := 1) rfl ?_); refine Kd.R_lit (Kd.int .i64) _ 3 ?hg (N := 1) ?hd (xs := ([1] : List Int)) (inner := [.int .i64 1]) (ok := fun _ => True) (okp := fun _ => True) ?hr ?hp (fun _ hk => hk) trivial (Below.refl _ _) (Nat.le_refl _) (by simp) ?_; (case hd => rfl); (case hg => rfl); (case hr => first | (go_simp; done) | (go_simp; rfl)); (case hp => exact (Reps.one (show Kd.M (Kd.int .i64) _ _ _ 1 [.int .i64 1] from rfl) (Reps.none _ _))); intro v326 w2 ho3 hb hg_ hnew_; clear hg_ hnew_; (first | rw [← Ny325.out] at ho3 | (simp only [Int.reduceToNat] at ho3; rw [← Ny325.out] at ho3)); have HO327 := aS (Kd.R_lower (Kd.R_newM (M := fun k_ => (w.heap.size ≤ k_)) ho3 (q06 (z6 HB.out GE324.out)) (fun k_ h_ => h_)) (q06 (z6 HB.out GE324.out))); replace BK324 := aS (q01 (g := gb324) (o := .cells #[.slice none 0 0, .bool false] 24 (0, 0)) (za BK324.out) hb); replace HB := aS (q02 (z6 HB.out GE324.out) hb); clear hb ho3; obtain ⟨Ao4, co4, eo4⟩ := Kd.R_slice HO327.out; subst eo4) | ((with_reducible refine q07 (N := 4) rfl ?_); refine Kd.R_lit k122 _ 122 ?hg (N := 4) ?hd (xs := ([(⟨(⟨#[97]⟩ : ByteArray), (⟨#[34]⟩ : ByteArray)⟩ : S122)] : List (S122))) (inner := [.string (⟨#[97]⟩ : ByteArray), .string (⟨#[34]⟩ : ByteArray)]) (ok := fun _ => True) (okp := fun _ => True) ?hr ?hp (fun _ hk => hk) trivial (Below.refl _ _) (Nat.le_refl _) (by simp) ?_; (case hd => rfl); (case hg => rfl); (case hr => first | (go_simp; done) | (go_simp; rfl)); (case hp => exact (Reps.c2 (show Kd.M k122 _ _ _ (⟨(⟨#[97]⟩ : ByteArray), (⟨#[34]⟩ : ByteArray)⟩ : S122) [.string (⟨#[97]⟩ : ByteArray), .string (⟨#[34]⟩ : ByteArray)] from (k122_mkM _ _ _ (⟨(⟨#[97]⟩ : ByteArray), (⟨#[34]⟩ : ByteArray)⟩ : S122) )) (Reps.none _ _))); intro v329 w5 ho6 hb hg_ hnew_; clear hg_ hnew_; (first | rw [← Ny328.out] at ho6 | (simp only [Int.reduceToNat] at ho6; rw [← Ny328.out] at ho6)); replace HO327 := aS (Kd.R_below (zf HO327.out) hb); have HO330 := aS (Kd.R_lower (Kd.R_newM (M := fun k_ => (w.heap.size ≤ k_)) ho6 (q06 (z6 HB.out GE324.out)) (fun k_ h_ => h_)) (q06 (z6 HB.out GE324.out))); replace BK324 := aS (q01 (g := gb324) (o := .cells #[.slice none 0 0, .bool false] 24 (0, 0)) (za BK324.out) hb); replace HB := aS (q02 (z6 HB.out GE324.out) hb); clear hb ho6) | ((with_reducible refine q07 (N := 5) rfl ?_); refine Kd.R_lit (Kd.int .i64) _ 3 ?hg (N := 5) ?hd (xs := ([2] : List Int)) (inner := [.int .i64 2]) (ok := fun _ => True) (okp := fun _ => True) ?hr ?hp (fun _ hk => hk) trivial (Below.refl _ _) (Nat.le_refl _) (by simp) ?_; (case hd => rfl); (case hg => rfl); (case hr => first | (go_simp; done) | (go_simp; rfl)); (case hp => exact (Reps.one (show Kd.M (Kd.int .i64) _ _ _ 2 [.int .i64 2] from rfl) (Reps.none _ _))); intro v332 w7 ho8 hb hg_ hnew_; clear hg_ hnew_; (first | rw [← Ny331.out] at ho8 | (simp only [Int.reduceToNat] at ho8; rw [← Ny331.out] at ho8)); have n0_ := aS (Kd.R_elder' (zf HO327.out) (Kd.R_base ho8) hb); have n1_ := aS (Kd.R_below (zf HO330.out) hb); have n2_ := aS (Kd.R_lower (Kd.R_new' (Kd.R_newM (M := fun k_ => (w.heap.size ≤ k_)) ho8 (q06 (z6 HB.out GE324.out)) (fun k_ h_ => h_)) (Kd.R_lt (zf HO327.out))) (q06 (z6 HB.out GE324.out))); have n3_ := aS (q01 (g := gb324) (o := .cells #[.slice none 0 0, .bool false] 24 (0, 0)) (za BK324.out) hb); have n4_ := aS (q02 (z6 HB.out GE324.out) hb); clear HO327; clear HO330; clear BK324; clear HB; have HO327 := n0_; have HO330 := n1_; have HO333 := n2_; have BK324 := n3_; have HB := n4_; clear n0_ n1_ n2_ n3_ n4_; clear hb ho8; obtain ⟨Ao9, co9, eo9⟩ := Kd.R_slice HO333.out; subst eo9; obtain ⟨Ao10, co10, eo10⟩ := Kd.R_slice HO330.out; subst eo10) | ((with_reducible refine q07 (N := 8) rfl ?_); refine Kd.N_lit k43 _ 43 ?hg (N' := 8) ?hd (xs := ([(⟨1, (⟨#[]⟩ : ByteArray), ([] : List (S122)), (⟨#[]⟩ : ByteArray), (-1), y325⟩ : S43), (⟨2, (⟨#[112]⟩ : ByteArray), y328, (⟨#[]⟩ : ByteArray), 0, y331⟩ : S43), (⟨3, (⟨#[]⟩ : ByteArray), ([] : List (S122)), (⟨#[60, 10]⟩ : ByteArray), 1, ([] : List Int)⟩ : S43)] : List (S43))) (inner := [.int .i64 1, .string (⟨#[]⟩ : ByteArray), .slice none 0 0, .string (⟨#[]⟩ : ByteArray), .int .i64 (-1), .slice Ao4 y325.length co4, .int .i64 2, .string (⟨#[112]⟩ : ByteArray), .slice Ao10 y328.length co10, .string (⟨#[]⟩ : ByteArray), .int .i64 0, .slice Ao9 y331.length co9, .int .i64 3, .string (⟨#[]⟩ : ByteArray), .slice none 0 0, .string (⟨#[60, 10]⟩ : ByteArray), .int .i64 1, .slice none 0 0]) (ok := (fun k_ => (w.heap.size ≤ k_) ∧ k_ ≠ gb324)) (okp := (fun k_ => (w.heap.size ≤ k_) ∧ k_ ≠ gb324)) ?hr ?hp (fun _ hk => hk) ((show ∀ k_, w7.heap.size ≤ k_ → (fun k_ => (w.heap.size ≤ k_) ∧ k_ ≠ gb324) k_ from fun k_ hk => ⟨(Nat.le_trans (q06 (z6 HB.out GE324.out)) hk), Kd.freshB (g := gb324) (o := .cells #[.slice none 0 0, .bool false] 24 (0, 0)) (za BK324.out) k_ hk⟩) _ (by first | exact Nat.le_refl _ | simp)) (Below.refl _ _) (Nat.le_refl _) (by simp) ?_; (case hd => rfl); (case hg => rfl); (case hr => first | (go_simp; done) | (go_simp; rfl)); (case hp => exact (Reps.c6 (show Kd.FK k43 _ _ (⟨1, (⟨#[]⟩ : ByteArray), ([] : List (S122)), (⟨#[]⟩ : ByteArray), (-1), y325⟩ : S43) [.int .i64 1, .string (⟨#[]⟩ : ByteArray), .slice none 0 0, .string (⟨#[]⟩ : ByteArray), .int .i64 (-1), .slice Ao4 y325.length co4] from (k43_mkF _ _ (⟨1, (⟨#[]⟩ : ByteArray), ([] : List (S122)), (⟨#[]⟩ : ByteArray), (-1), y325⟩ : S43) (Nat.le_refl _) (Kd.F_nil _ _ _) (Kd.R_reads' (Kd.R_mono (ok' := (fun k_ => (w.heap.size ≤ k_) ∧ k_ ≠ gb324)) (Kd.R_types (HO327.out) BK324.out (by decide)) (fun k_ hk => ⟨hk.1.1.1, hk.2⟩))).2.1 (Kd.R_F (Kd.R_mono (ok' := (fun k_ => (w.heap.size ≤ k_) ∧ k_ ≠ gb324)) (Kd.R_types (HO327.out) BK324.out (by decide)) (fun k_ hk => ⟨hk.1.1.1, hk.2⟩))))) (Reps.c6 (show Kd.FK k43 _ _ (⟨2, (⟨#[112]⟩ : ByteArray), y328, (⟨#[]⟩ : ByteArray), 0, y331⟩ : S43) [.int .i64 2, .string (⟨#[112]⟩ : ByteArray), .slice Ao10 y328.length co10, .string (⟨#[]⟩ : ByteArray), .int .i64 0, .slice Ao9 y331.length co9] from (k43_mkFV _ _ (⟨2, (⟨#[112]⟩ : ByteArray), y328, (⟨#[]⟩ : ByteArray), 0, y331⟩ : S43) (Kd.R_V (base' := 0) (Kd.R_mono (ok' := (fun k_ => (w.heap.size ≤ k_) ∧ k_ ≠ gb324)) (Kd.R_types (HO330.out) BK324.out (by decide)) (fun k_ hk => ⟨hk.1.1, hk.2⟩))) (Kd.R_V (base' := 0) (Kd.R_mono (ok' := (fun k_ => (w.heap.size ≤ k_) ∧ k_ ≠ gb324)) (Kd.R_types (HO333.out) BK324.out (by decide)) (fun k_ hk => ⟨hk.1.1.1, hk.2⟩))))) (Reps.c6 (show Kd.FK k43 _ _ (⟨3, (⟨#[]⟩ : ByteArray), ([] : List (S122)), (⟨#[60, 10]⟩ : ByteArray), 1, ([] : List Int)⟩ : S43) [.int .i64 3, .string (⟨#[]⟩ : ByteArray), .slice none 0 0, .string (⟨#[60, 10]⟩ : ByteArray), .int .i64 1, .slice none 0 0] from (k43_mkF _ _ (⟨3, (⟨#[]⟩ : ByteArray), ([] : List (S122)), (⟨#[60, 10]⟩ : ByteArray), 1, ([] : List Int)⟩ : S43) (Nat.le_refl _) (Kd.F_nil _ _ _) (Nat.le_refl _) (Kd.F_nil _ _ _))) (Reps.none _ _))))); intro v335 w11 ho12 hb hg_ hnew_; clear hg_ hnew_; (first | rw [← Ny334.out] at ho12 | (simp only [Int.reduceToNat] at ho12; rw [← Ny334.out] at ho12)); have n0_ := aS (Kd.N_lower ho12 (q06 (z6 HB.out GE324.out))); have n1_ := aS (q01 (g := gb324) (o := .cells #[.slice none 0 0, .bool false] 24 (0, 0)) (za BK324.out) hb); have n2_ := aS (q02 (z6 HB.out GE324.out) hb); clear BK324; clear HB; clear HO327; clear HO330; clear HO333; have HO336 := n0_; have BK324 := n1_; have HB := n2_; clear n0_ n1_ n2_; clear hb ho12; obtain ⟨Ao13, co13, eo13⟩ := Kd.N_slice HO336.out; subst eo13; obtain ⟨hcz14_0, hcz14_1, hfz14_0, hfz14_1⟩ := bk2 BK324.out))
 refine bodyPost_ret (results_cell_row rfl _ _ gb324 24 #[.slice Ao13 y334.length co13, .bool false] (0, 0) _ rfl (by (with_reducible repeat (first | refine kN ?_ _ | refine kD ?_ | refine kA ?_ _)); refine q0h (cs := #[.slice Ao13 y334.length co13, .bool false]) ?_ 1 _ rfl; (with_reducible repeat (first | refine kN ?_ _ | refine kD ?_ | refine kA ?_ _)); refine q0h (cs := #[.slice none 0 0, .bool false]) ?_ 0 _ rfl; (with_reducible repeat (first | refine kN ?_ _ | refine kD ?_ | refine kA ?_ _)); exact BK324.out) Tryd.underlying24 rfl (by kernel_rfl)) rfl ?_
 exact ⟨_, by first | rfl | (simp [q05, q04] <;> rfl) | (simp [*, q05, q04] <;> rfl), by (with_reducible repeat (first | apply nA | apply nN | apply nD)); exact Kd.N_mono (Kd.N_far (p := ⟨gb324, 1, none⟩) (Kd.N_far (p := ⟨gb324, 0, none⟩) (Kd.N_mono HO336.out (fun k_ hk => (⟨hk, hk.2⟩ : _ ∧ k_ ≠ gb324))) (fun _ hk => hk.2) (.slice Ao13 y334.length co13)) (fun _ hk => hk.2) (.bool false)) (fun _ hk => hk.1.1), by repeat (first | (with_reducible first | exact HB.out | apply bA | apply bN | apply bD | refine bS ?_ GE324.out) | exact HB.out)⟩
def clerestorylaw1_spanBegun.f (k : Nat)  : Option (Bool) := (clerestorylaw1_oneP.f).bind fun bt337 => ((span_Text.f k bt337.1 bt337.2 2 1 1 1).bind fun bt341 => ((clerestorylaw1_oneP.f).bind fun bt343 => ((span_Cut.f k bt343.1 bt343.2 1 0 2 1).bind fun bt347 => (if bt341.1.toList = ([10] : List UInt8) then (if bt341.2 = 0 then (if bt347.2 = 0 then (if (bt347.1.length : Int) = 1 then (if 0 < (bt347.1.length : Int) then (some (((q0g bt347.1 0).f5).toList == ([10] : List UInt8))) else (none)) else (none)) else (none)) else (none)) else (none)))))
theorem clerestorylaw1_spanBegun.mono : ∀ k, LeO (clerestorylaw1_spanBegun.f k ) (clerestorylaw1_spanBegun.f (k + 1) ) := by
 intro  k
 unfold clerestorylaw1_spanBegun.f
 repeat' first | with_reducible first | apply span_Cut.mono | apply span_Text.mono | exact LeO.refl _ | exact LeO.none _ | refine LeO.ite ?_ ?_ | refine LeO.bind ?_ (fun _ => ?_) | (first | apply span_Cut.mono | apply span_Text.mono | exact LeO.none _ | refine LeO.ite ?_ ?_ | refine LeO.bind ?_ (fun _ => ?_))
set_option maxHeartbeats 8000000 in
set_option maxRecDepth 100000 in
theorem clerestorylaw1_spanBegun.calls (k : Nat)  (r : Bool) (w : World) (h : clerestorylaw1_spanBegun.f k  = some r) :
 Calls Tryd.prog 35 #[] w fun e w' => e = .returned (.bool r) ∧ Below w.heap.size w w' := by
 have hu50 := Tryd.underlying50
 have hu52 := Tryd.underlying52
 have HB := aS (Below.refl w.heap.size w)
 have H := h; clear h; unfold clerestorylaw1_spanBegun.f at H
 replace H := iB H
 obtain ⟨⟨t337, t340⟩, A1, H⟩ := H
 try dsimp only at H
 replace H := iB H
 obtain ⟨⟨t341, t342⟩, A2, H⟩ := H
 try dsimp only at H
 replace H := iB H
 obtain ⟨⟨t343, t346⟩, A3, H⟩ := H
 try dsimp only at H
 replace H := iB H
 obtain ⟨⟨t347, t350⟩, A4, H⟩ := H
 try dsimp only at H
 refine iE H ?p5 ?n5 <;> clear H
 case' p5 => intro c5b0 c5b1 H; refine iE H ?p6 ?n6 <;> clear H
 case' p6 => intro c6b0 c6b1 H; refine iE H ?p7 ?n7 <;> clear H
 case' p7 => intro c7b0 c7b1 H; refine iE H ?p8 ?n8 <;> clear H
 case' p8 => intro c8b0 c8b1 H; refine iTNp (m := 0) (n := t347.length) H rfl rfl ?_; clear H; intro c9b0 c9b1 H
 case' n8 => intro c8 c8b0 c8b1 H
 case' n7 => intro c7 c7b0 c7b1 H
 case' n6 => intro c6 c6b0 c6b1 H
 case' n5 => intro c5 c5b0 c5b1 H
 case p8 =>
  obtain rfl := Option.some.inj H
  go_enter Tryd.func35, Tryd.ntmps35
  go_wp2_with (first | ((with_reducible refine q08 (f := 75) rfl ?_); refine q0n (some 6) rfl rfl Tryd.func75 (by kernel_rfl) rfl #[] rfl zc ?_; (with_reducible refine (clerestorylaw1_oneP.calls  t337 t340 _ A1.out).mono ?_); rintro e w10 ⟨v338, rfl, ho0, hb⟩; refine ⟨_, rfl, ?_⟩; have HO339 := aS (Kd.N_lower (Kd.N_mono (ok' := fun k_ => True) ho0 (fun k_ hk_ => trivial)) (q06 (z7 HB.out))); replace HB := aS (q02 (z7 HB.out) hb); (try clear hb); (try clear hb2); (try clear hk); (try clear hi); (try clear ho0); obtain ⟨Ao11, co11, eo11⟩ := Kd.N_slice HO339.out; subst eo11) | ((with_reducible refine q08 (f := 38) rfl ?_); refine q0n (some 10) rfl rfl Tryd.func38 (by kernel_rfl) rfl #[.agg #[.slice Ao11 t337.length co11, .bool t340], .agg #[.int .i64 2, .int .i64 1, .int .i64 1, .int .i64 1]] rfl zc ?_; (with_reducible refine (span_Text.calls k _ _ t337 t340 2 1 1 1 t341 t342 _ ?side1 ?side2 A2.out).mono ?_); (case side1 => repeat (first | exact (Kd.N_reads' HO339.out).2.2 | (with_reducible refine cA ?_ _) | (with_reducible refine cN ?_ _) | (with_reducible refine cD ?_))); (case side2 => exact (Kd.N_reads' HO339.out).2.1); rintro e w12 ⟨rfl, hb⟩; refine ⟨_, rfl, ?_⟩; replace HO339 := aS (Kd.N_below (by (with_reducible repeat (first | apply nA | apply nN | apply nD)); exact HO339.out) hb); replace HB := aS (q02 (z7 HB.out) hb); (try clear hb); (try clear hb2); (try clear hk); (try clear hi)) | ((with_reducible refine q08 (f := 75) rfl ?_); refine q0n (some 14) rfl rfl Tryd.func75 (by kernel_rfl) rfl #[] rfl zc ?_; (with_reducible refine (clerestorylaw1_oneP.calls  t343 t346 _ A3.out).mono ?_); rintro e w13 ⟨v344, rfl, ho0, hb⟩; refine ⟨_, rfl, ?_⟩; have n0_ := aS (Kd.N_elder' (by (with_reducible repeat (first | apply nA | apply nN | apply nD)); exact HO339.out) (Kd.N_base ho0) hb); have n1_ := aS (Kd.N_lower (Kd.N_mono (ok' := fun k_ => some k_ ≠ (.slice Ao11 t337.length co11 : Value).ownBlock) ho0 (fun k_ hk_ => (Kd.fresh' (Kd.N_lt (by (with_reducible repeat (first | apply nA | apply nN | apply nD)); exact HO339.out)) k_ hk_))) (q06 (z7 HB.out))); have n2_ := aS (q02 (z7 HB.out) hb); clear HO339; clear HB; have HO339 := n0_; have HO345 := n1_; have HB := n2_; clear n0_ n1_ n2_; (try clear hb); (try clear hb2); (try clear hk); (try clear hi); (try clear ho0); obtain ⟨Ao14, co14, eo14⟩ := Kd.N_slice HO345.out; subst eo14) | ((with_reducible refine q08 (f := 32) rfl ?_); refine q0n (some 18) rfl rfl Tryd.func32 (by kernel_rfl) rfl #[.agg #[.slice Ao14 t343.length co14, .bool t346], .agg #[.int .i64 1, .int .i64 0, .int .i64 2, .int .i64 1]] rfl zc ?_; (with_reducible refine (span_Cut.calls k _ _ t343 t346 1 0 2 1 t347 t350 _ ?side1 ?side2 A4.out).mono ?_); (case side1 => repeat (first | exact (Kd.N_reads' HO345.out).2.2 | (with_reducible refine cA ?_ _) | (with_reducible refine cN ?_ _) | (with_reducible refine cD ?_))); (case side2 => exact (Kd.N_reads' HO345.out).2.1); rintro e w15 ⟨v348, rfl, ho0, hb⟩; refine ⟨_, rfl, ?_⟩; have n0_ := aS (Kd.N_elder' (by (with_reducible repeat (first | apply nA | apply nN | apply nD)); exact HO339.out) (Kd.S_base ho0) hb); have n1_ := aS (Kd.N_elder' (by (with_reducible repeat (first | apply nA | apply nN | apply nD)); exact HO345.out) (Kd.S_base ho0) hb); have n2_ := aS (Kd.N_lower (Kd.N_mono (ok' := fun k_ => some k_ ≠ (.slice Ao11 t337.length co11 : Value).ownBlock ∧ some k_ ≠ (.slice Ao14 t343.length co14 : Value).ownBlock) (Kd.S_N (Kd.S_bound ho0)) (fun k_ hk_ => ⟨(Kd.fresh' (Kd.N_lt (by (with_reducible repeat (first | apply nA | apply nN | apply nD)); exact HO339.out)) k_ hk_.2.1), (Kd.fresh' (Kd.N_lt (by (with_reducible repeat (first | apply nA | apply nN | apply nD)); exact HO345.out)) k_ hk_.2.1)⟩)) (q06 (z7 HB.out))); have n3_ := aS (q02 (z7 HB.out) hb); clear HO339; clear HO345; clear HB; have HO339 := n0_; have HO345 := n1_; have HO349 := n2_; have HB := n3_; clear n0_ n1_ n2_ n3_; (try clear hb); (try clear hb2); (try clear hk); (try clear hi); (try clear ho0); obtain ⟨Ao16, co16, eo16⟩ := Kd.N_slice HO349.out; subst eo16; have p351 : 0 ≤ (0 : Int) := (by omega); have q351 : 0 < (t347.length : Int) := od zb; obtain ⟨ad351, A351_8, c351_8, A351_11, c351_11, e351, hx351_0, hx351_1, hx351_2, hx351_3, hx351_4, hx351_5, hx351_6, hx351_7, hx351_8, hx351_9, hx351_10, hx351_11, hl351_8, hi351_8, hl351_11, hi351_11⟩ := at_T87 (Kd.N_reads' HO349.out).2.2 0 p351 q351; cases e351; obtain ⟨ce351, hce351, hMe351, hcc351⟩ := Kd.N_get HO349.out z87 0 p351 (by first | exact q351 | exact od zb | (have e_ := (Kd.N_reads' HO349.out).1; omega)); obtain ⟨ua351_8, uc351_8, ua351_11, uc351_11, rfl, ul351_8, ge351_8, ul351_11, ge351_11⟩ := k87_openF hMe351; have hv351_8 := hcc351 8 _ rfl; rw [q0u _ _ 8 (by omega)] at hv351_8; replace hv351_8 := Option.some.inj (hv351_8.symm.trans hx351_8); injection hv351_8 with hva_ hvn_ hvc_; rw [hva_] at ge351_8; rw [hvc_] at ul351_8; have HL351_8 := aS (show Kd.V k122 122 _ w.heap.size _ _ ((q0g t347 0).f6.f2) from Kd.V_mk ul351_8 ge351_8); clear hva_ hvn_ hvc_ ge351_8 ul351_8; have hv351_11 := hcc351 11 _ rfl; rw [q0u _ _ 11 (by omega)] at hv351_11; replace hv351_11 := Option.some.inj (hv351_11.symm.trans hx351_11); injection hv351_11 with hva_ hvn_ hvc_; rw [hva_] at ge351_11; rw [hvc_] at ul351_11; have HL351_11 := aS (show Kd.V (Kd.int .i64) 3 _ w.heap.size _ _ ((q0g t347 0).f6.f5) from Kd.V_mk ul351_11 ge351_11); clear hva_ hvn_ hvc_ ge351_11 ul351_11; clear hcc351 hce351; have qi351 : (0 < t347.length) = True := eq_true (by omega); (try rw [show ((0 : Int)).toNat = 0 from rfl] at hx351_0); (try rw [show 0 * 12 = 0 from rfl] at hx351_0); (try rw [Addr.add_zero'] at hx351_0); (try rw [show ((0 : Int)).toNat = 0 from rfl] at hx351_1); (try rw [show 0 * 12 = 0 from rfl] at hx351_1); (try rw [Addr.add_zero'] at hx351_1); (try rw [show ((0 : Int)).toNat = 0 from rfl] at hx351_2); (try rw [show 0 * 12 = 0 from rfl] at hx351_2); (try rw [Addr.add_zero'] at hx351_2); (try rw [show ((0 : Int)).toNat = 0 from rfl] at hx351_3); (try rw [show 0 * 12 = 0 from rfl] at hx351_3); (try rw [Addr.add_zero'] at hx351_3); (try rw [show ((0 : Int)).toNat = 0 from rfl] at hx351_4); (try rw [show 0 * 12 = 0 from rfl] at hx351_4); (try rw [Addr.add_zero'] at hx351_4); (try rw [show ((0 : Int)).toNat = 0 from rfl] at hx351_5); (try rw [show 0 * 12 = 0 from rfl] at hx351_5); (try rw [Addr.add_zero'] at hx351_5); (try rw [show ((0 : Int)).toNat = 0 from rfl] at hx351_6); (try rw [show 0 * 12 = 0 from rfl] at hx351_6); (try rw [Addr.add_zero'] at hx351_6); (try rw [show ((0 : Int)).toNat = 0 from rfl] at hx351_7); (try rw [show 0 * 12 = 0 from rfl] at hx351_7); (try rw [Addr.add_zero'] at hx351_7); (try rw [show ((0 : Int)).toNat = 0 from rfl] at hx351_8); (try rw [show 0 * 12 = 0 from rfl] at hx351_8); (try rw [Addr.add_zero'] at hx351_8); (try rw [show ((0 : Int)).toNat = 0 from rfl] at hx351_9); (try rw [show 0 * 12 = 0 from rfl] at hx351_9); (try rw [Addr.add_zero'] at hx351_9); (try rw [show ((0 : Int)).toNat = 0 from rfl] at hx351_10); (try rw [show 0 * 12 = 0 from rfl] at hx351_10); (try rw [Addr.add_zero'] at hx351_10); (try rw [show ((0 : Int)).toNat = 0 from rfl] at hx351_11); (try rw [show 0 * 12 = 0 from rfl] at hx351_11); (try rw [Addr.add_zero'] at hx351_11); have HR351_8 := aS hi351_8; have HC351_8 := aS hl351_8; clear hi351_8 hl351_8; have HR351_11 := aS hi351_11; have HC351_11 := aS hl351_11; clear hi351_11 hl351_11; replace p351 := eq_true p351; replace q351 := eq_true q351))
  go_ret
  exact ⟨by first | rfl | (simp [q05, q04] <;> rfl) | (simp [*, q05, q04] <;> rfl), by repeat (first | (with_reducible first | exact HB.out | apply bA | apply bN | apply bD) | exact HB.out)⟩
 case n8 => exact absurd H (by simp)
 case n7 => exact absurd H (by simp)
 case n6 => exact absurd H (by simp)
 case n5 => exact absurd H (by simp)
mutual
def clerestoryref1_Below.l0 : Nat → Int → List Int → Int → List (S43) → Bool → Option (List Int)
 | 0, _, _, _, _, _ => none
 | k + 1, x1, x5, x6, x408000, x408001 => if 0 ≤ x1 then (if x1 < (x408000.length : Int) then (if x6 < (((q00 x408000 x1).f5).length : Int) then (if 0 ≤ x6 then ((clerestoryref1_Below.f k x408000 x408001 (rd ((q00 x408000 x1).f5) x6)).bind fun t414 => (if x5.length + t414.length < 17592186044416 then (clerestoryref1_Below.l0 k x1 (x5 ++ t414) (wrap64 (x6 + 1)) x408000 x408001) else (none))) else (none)) else (some x5)) else (none)) else (none)
def clerestoryref1_Below.f : Nat → List (S43) → Bool → Int → Option (List Int)
 | 0, _, _, _ => none
 | k + 1, l0_0, a0_1, a1 => clerestoryref1_Below.l0 k a1 (([a1] : List Int)) 0 l0_0 a0_1
end
def clerestoryref1_Below.T5 : Bool × List (List Nat × List Nat) := (true, [([], []), ([], []), ([], []), ([2], [2]), ([], []), ([3, 4], [3, 4]), ([5], [5]), ([6], [6]), ([], []), ([7, 8], [7, 8]), ([9], [9]), ([1, 10], [1, 10]), ([0, 11, 11], [0, 11]), ([12, 12, 0, 1, 2, 3, 4, 5, 6, 7, 8, 9, 10, 11, 12], [0, 12])])
def clerestoryref1_Below.B5 : List Nat := [0, 0, 0, 4, 0, 28, 60, 124, 0, 508, 1020, 2046, 4095, 8191]
theorem clerestoryref1_Below.tab5 : rtab .any (opsOf Tryd.f25 5) = clerestoryref1_Below.T5 := by kernel_rfl
theorem clerestoryref1_Below.bits5 : waitsOk clerestoryref1_Below.T5.2 clerestoryref1_Below.B5 = true := by kernel_rfl
set_option maxHeartbeats 8000000 in
set_option maxRecDepth 100000 in
theorem clerestoryref1_Below.calls (k : Nat) : ∀ (A0_0 : Option Addr) (c0_0 : Nat) (l0_0 : List (S43)) (a0_1 : Bool) (a1 : Int) (r : List Int) (w : World) (hr0_0 : Kd.C k43 w A0_0 l0_0.length l0_0) (hc0_0 : l0_0.length ≤ c0_0) (h : clerestoryref1_Below.f k l0_0 a0_1 a1 = some r),
 Calls Tryd.prog 25 #[.agg #[.slice A0_0 l0_0.length c0_0, .bool a0_1], .int .i64 a1] w fun e w' => ∃ v0_ : Value, e = .returned (v0_) ∧ Kd.R (Kd.int .i64) 3 w' w.heap.size (fun _ => True) v0_ r ∧ Below w.heap.size w w' := by
 induction k using Nat.strongRecOn with
 | _ k ih =>
 intro A0_0 c0_0 l0_0 a0_1 a1 r w hr0_0 hc0_0 h
 cases k with
 | zero => exact absurd h (by simp [clerestoryref1_Below.f])
 | succ k =>
 simp only [clerestoryref1_Below.f] at h
 have hu24 := Tryd.underlying24
 have HR0_0 := aS hr0_0
 have HC0_0 := aS hc0_0
 clear hr0_0 hc0_0
 have HB := aS (Below.refl w.heap.size w)
 have H := h; clear h; unfold clerestoryref1_Below.f at H
 obtain ⟨y408, hy408⟩ : ∃ y_ : List Int, y_ = (([a1] : List Int)) := ⟨_, rfl⟩
 replace H : (clerestoryref1_Below.l0 k a1 y408 0 l0_0 a0_1) = some r := by first | (rw [hy408]; with_reducible exact H) | (have H2_ := (Option.bind_some _ _).symm.trans H; rw [hy408]; with_reducible exact H2_) | (have H2_ := (Option.bind_some _ _).symm.trans H; with_reducible exact H2_) | with_reducible exact H | (rw [hy408]; exact H) | exact H
 have Ny408 := aS hy408
 clear hy408
 have H' := aS H
 clear H
 go_enter Tryd.func25, Tryd.ntmps25
 go_wp2_with (first | ((with_reducible refine q07 (N := 2) rfl ?_); refine box0 rfl (N := 2) rfl (cs := #[.slice A0_0 l0_0.length c0_0, .bool a0_1]) (t := 24) zh (z7 HB.out) ?_; clear HB; intro gb407 w3 BK407 GW407 HB; have GE407 := GW407) | ((with_reducible refine q07 (N := 8) rfl ?_); refine Kd.R_lit (Kd.int .i64) _ 3 ?hg (N := 8) ?hd (xs := ([a1] : List Int)) (inner := [.int .i64 a1]) (ok := fun _ => True) (okp := fun _ => True) ?hr ?hp (fun _ hk => hk) trivial (Below.refl _ _) (Nat.le_refl _) (by simp) ?_; (case hd => rfl); (case hg => rfl); (case hr => first | (go_simp; done) | (go_simp; rfl)); (case hp => exact (Reps.one (show Kd.M (Kd.int .i64) _ _ _ a1 [.int .i64 a1] from rfl) (Reps.none _ _))); intro v409 w4 ho5 hb hg_ hnew_; clear hg_ hnew_; (first | rw [← Ny408.out] at ho5 | (simp only [Int.reduceToNat] at ho5; rw [← Ny408.out] at ho5)); have HO410 := aS (Kd.R_lower ho5 (q06 (z6 HB.out GE407.out))); replace BK407 := aS (q01 (g := gb407) (o := .cells #[.slice A0_0 l0_0.length c0_0, .bool a0_1] 24 (0, 0)) (za BK407.out) hb); replace HB := aS (q02 (z6 HB.out GE407.out) hb); clear hb ho5))
 go_loopg [5, 6] k (fun kq v5 v6 w' => ∃ (x5_1 : List Int) (x6_1 : Int), v6 = .int .i64 x6_1 ∧ Aside0 (clerestoryref1_Below.l0 kq a1 x5_1 x6_1 l0_0 a0_1 = some r) ∧ Aside0 (kq ≤ k) ∧ Aside0 (Kd.R (Kd.int .i64) 3 w' w.heap.size (fun _ => True) v5 x5_1) ∧ Aside0 (w'.heap[gb407]? = some (.cells #[(.slice A0_0 l0_0.length c0_0), .bool a0_1] 24 (0, 0))) ∧ Aside0 (Below w.heap.size w w'))
 case atStart => exact ⟨(y408), (0), zi, H', ⟨Nat.le_refl _⟩, ⟨by (with_reducible repeat (first | apply rA | apply rN | apply rD)); exact HO410.out⟩, ⟨by (with_reducible repeat (first | refine kN ?_ _ | refine kD ?_ | refine kA ?_ _)); exact BK407.out⟩, ⟨by repeat (first | (with_reducible first | exact HB.out | apply bA | apply bN | apply bD | refine bS ?_ GE407.out) | exact HB.out)⟩⟩
 case round =>
  clear H'
  obtain ⟨x5_1, x6_1, rfl, HA, HK1, HO_5, BK407, HB⟩ := hrel
  cases gk with
  | zero => exact absurd HA.out (by simp [clerestoryref1_Below.l0])
  | succ k1 =>
   have H := HA.out
   clear HA
   simp only [clerestoryref1_Below.l0] at H
   refine iLp H ?_; clear H; intro c6b0 H
   refine iTp H ?_; clear H; intro c7b0 H
   refine iT H ?p8 ?n8 <;> clear H
   case' p8 => intro c8b0 H; refine iLp H ?_; clear H; intro c9b0 H; replace H := iB H; obtain ⟨t414, A10, H⟩ := H; refine iGp H ?_; clear H; intro c11 H
   case' n8 => intro c8b0 H
   case p8 =>
    have LMc11 := aS c11
    clear c11
    obtain ⟨y417, hy417⟩ : ∃ y_ : List Int, y_ = (x5_1 ++ t414) := ⟨_, rfl⟩
    replace H : (clerestoryref1_Below.l0 k1 a1 y417 (wrap64 (x6_1 + 1)) l0_0 a0_1) = some r := by first | (rw [hy417]; with_reducible exact H) | (have H2_ := (Option.bind_some _ _).symm.trans H; rw [hy417]; with_reducible exact H2_) | (have H2_ := (Option.bind_some _ _).symm.trans H; with_reducible exact H2_) | with_reducible exact H | (rw [hy417]; exact H) | exact H
    have Ny417 := aS hy417
    clear hy417
    have H' := aS H
    clear H
    obtain ⟨hczL_0, hczL_1, hfzL_0, hfzL_1⟩ := bk2 BK407.out
    obtain ⟨ad411, A411_2, c411_2, A411_5, c411_5, e411, hx411_0, hx411_1, hx411_2, hx411_3, hx411_4, hx411_5, HC411_2, HR411_2, HC411_5, HR411_5, p411, q411⟩ := q0o HB.out HR0_0.out a1 zb zb
    cases e411
    try go_wp2
    have n0_ := aS (Kd.R_drew HO_5.out)
    have n1_ := aS (q0v BK407.out)
    have n2_ := aS (q0t HB.out)
    clear HO_5
    clear BK407
    clear HB
    have HO_5 := n0_
    have BK407 := n1_
    have HB := n2_
    clear n0_ n1_ n2_
    have p412 : 0 ≤ (a1 : Int) := od zb
    have q412 : a1 < (l0_0.length : Int) := od zb
    obtain ⟨ad412, A412_2, c412_2, A412_5, c412_5, e412, hx412_0, hx412_1, hx412_2, hx412_3, hx412_4, hx412_5, hl412_2, hi412_2, hl412_5, hi412_5⟩ := at_T43 HR0_0.out a1 p412 q412
    have hw412_5 := hx412_5
    have hw412_4 := hx412_4
    have hw412_3 := hx412_3
    have hw412_2 := hx412_2
    have hw412_1 := hx412_1
    have hw412_0 := hx412_0
    obtain rfl : ad411 = ad412 := (by injection e412)
    replace hx412_0 := q0f HB.out hx412_0
    replace hx412_1 := q0f HB.out hx412_1
    replace hx412_2 := q0f HB.out hx412_2
    replace hx412_3 := q0f HB.out hx412_3
    replace hx412_4 := q0f HB.out hx412_4
    replace hx412_5 := q0f HB.out hx412_5
    have HR412_2 := aS hi412_2
    have HC412_2 := aS hl412_2
    clear hi412_2 hl412_2
    have HR412_5 := aS hi412_5
    have HC412_5 := aS hl412_5
    clear hi412_5 hl412_5
    replace p412 := eq_true p412
    replace q412 := eq_true q412
    have p413 : 0 ≤ (x6_1 : Int) := od zb
    have q413 : x6_1 < (((q00 l0_0 a1).f5).length : Int) := od zb
    obtain ⟨ad413, e413, hx413_0⟩ := Kd.at_int HR412_5.out x6_1 p413 q413
    have hw413_0 := hx413_0
    cases e413
    replace hx413_0 := q0f HB.out hx413_0
    replace p413 := eq_true p413
    replace q413 := eq_true q413
    refine start_ (n := 14) (S := fun w' => w'.cell? ⟨gb407, 0, none⟩ = some (.slice (some ad411) l0_0.length c0_0) ∧ w'.cell? ⟨gb407, 1, none⟩ = some (.bool a0_1) ∧ w'.cell? (ad411.add ((a1).toNat * 6)) = some (.int .i64 ((q00 l0_0 a1).f0)) ∧ w'.cell? ⟨(ad411.add ((a1).toNat * 6)).block, (ad411.add ((a1).toNat * 6)).off + 1, none⟩ = some (.string ((q00 l0_0 a1).f1)) ∧ w'.cell? ⟨(ad411.add ((a1).toNat * 6)).block, (ad411.add ((a1).toNat * 6)).off + 2, none⟩ = some (.slice A412_2 ((q00 l0_0 a1).f2).length c412_2) ∧ w'.cell? ⟨(ad411.add ((a1).toNat * 6)).block, (ad411.add ((a1).toNat * 6)).off + 3, none⟩ = some (.string ((q00 l0_0 a1).f3)) ∧ w'.cell? ⟨(ad411.add ((a1).toNat * 6)).block, (ad411.add ((a1).toNat * 6)).off + 4, none⟩ = some (.int .i64 ((q00 l0_0 a1).f4)) ∧ w'.cell? ⟨(ad411.add ((a1).toNat * 6)).block, (ad411.add ((a1).toNat * 6)).off + 5, none⟩ = some (.slice (some ad413) ((q00 l0_0 a1).f5).length c412_5) ∧ w'.cell? (ad413.add (x6_1).toNat) = some (.int .i64 (rd ((q00 l0_0 a1).f5) x6_1))) (ds := []) #[false, false, false, false, false, false, false, false, false, false, false, false, false, false] (by kernel_rfl) rfl rfl ⟨(q03 BK407.out 0).trans rfl, (q03 BK407.out 1).trans rfl, ((HB.out.cell (World.block_lt_of_cell? w _ hw412_0)).trans hw412_0), ((HB.out.cell (World.block_lt_of_cell? w _ hw412_1)).trans hw412_1), ((HB.out.cell (World.block_lt_of_cell? w _ hw412_2)).trans hw412_2), ((HB.out.cell (World.block_lt_of_cell? w _ hw412_3)).trans hw412_3), ((HB.out.cell (World.block_lt_of_cell? w _ hw412_4)).trans hw412_4), ((HB.out.cell (World.block_lt_of_cell? w _ hw412_5)).trans hw412_5), ((HB.out.cell (World.block_lt_of_cell? w _ hw413_0)).trans hw413_0)⟩ (fun hHeld => ?_); refine q14 clerestoryref1_Below.tab5 clerestoryref1_Below.bits5 (fun HT_ HW_ => ?_)
    generalize wr.drew = w13 at HO_5 BK407 HB HR412_2 HR412_5 hx412_0 hx412_1 hx412_2 hx412_3 hx412_4 hx412_5 hx413_0 hHeld ⊢
    refine q0e (i := 0) (N := some 20) (v := ?_) (a' := ?_) #[true, false, false, false, false, false, false, false, false, false, false, false, false, false] rfl rfl (q0b HT_.out (by kernel_rfl)) (fun _ _ _ h => h) (Or.inl ⟨by rfl, ?_⟩) ?_ ?_
    rotate_left
    ·intro w'
     go_simp
     with_reducible rfl
    rotate_left
    ·simp only [Act.put, s1, s2, s3, q09, q0a]
     rfl
    refine q0e (i := 2) (N := some 22) (v := ?_) (a' := ?_) #[true, false, true, false, false, false, false, false, false, false, false, false, false, false] rfl rfl (q0b HT_.out (by kernel_rfl)) (fun _ _ _ h => h) (Or.inl ⟨by rfl, ?_⟩) ?_ ?_
    rotate_left
    ·intro w'
     go_simp
     with_reducible rfl
    rotate_left
    ·simp only [Act.put, s1, s2, s3, q09, q0a]
     rfl
    refine q0e (i := 4) (N := some 24) (v := ?_) (a' := ?_) #[true, false, true, false, true, false, false, false, false, false, false, false, false, false] rfl rfl (q0b HT_.out (by kernel_rfl)) (fun _ _ _ h => h) (Or.inl ⟨by rfl, ?_⟩) ?_ ?_
    rotate_left
    ·intro w'
     go_simp
     with_reducible rfl
    rotate_left
    ·simp only [Act.put, s1, s2, s3, q09, q0a]
     rfl
    refine q0e (i := 8) (N := some 28) (v := ?_) (a' := ?_) #[true, false, true, false, true, false, false, false, true, false, false, false, false, false] rfl rfl (q0b HT_.out (by kernel_rfl)) (fun _ _ _ h => h) (Or.inl ⟨by rfl, ?_⟩) ?_ ?_
    rotate_left
    ·intro w'
     go_simp
     with_reducible rfl
    rotate_left
    ·simp only [Act.put, s1, s2, s3, q09, q0a]
     rfl
    refine take_ (i := 1) (N := some 21) (v := ?_) (a' := ?_) #[true, true, true, false, true, false, false, false, true, false, false, false, false, false] rfl rfl (q0m HT_.out HW_.out (by kernel_rfl)) (fun _ _ _ h => h) (Or.inl ⟨by rfl, ?_⟩) hHeld ?_ ?_
    rotate_left
    ·rintro w' ⟨s0, s1, s2, s3, s4, s5, s6, s7, s8⟩
     go_simp
     with_reducible rfl
    rotate_left
    ·simp only [Act.put, s1, s2, s3, q09, q0a]
     rfl
    refine take_ (i := 3) (N := some 23) (v := ?_) (a' := ?_) #[true, true, true, true, true, false, false, false, true, false, false, false, false, false] rfl rfl (q0m HT_.out HW_.out (by kernel_rfl)) (fun _ _ _ h => h) (Or.inl ⟨by rfl, ?_⟩) hHeld ?_ ?_
    rotate_left
    ·rintro w' ⟨s0, s1, s2, s3, s4, s5, s6, s7, s8⟩
     go_simp
     with_reducible rfl
    rotate_left
    ·simp only [Act.put, s1, s2, s3, q09, q0a]
     rfl
    refine q0e (i := 5) (N := some 25) (v := ?_) (a' := ?_) #[true, true, true, true, true, true, false, false, true, false, false, false, false, false] rfl rfl (q0b HT_.out (by kernel_rfl)) (fun _ _ _ h => h) (Or.inl ⟨by rfl, ?_⟩) ?_ ?_
    rotate_left
    ·intro w'
     go_simp
     with_reducible rfl
    rotate_left
    ·simp only [Act.put, s1, s2, s3, q09, q0a]
     rfl
    refine q0e (i := 6) (N := some 26) (v := ?_) (a' := ?_) #[true, true, true, true, true, true, true, false, true, false, false, false, false, false] rfl rfl (q0b HT_.out (by kernel_rfl)) (fun _ _ _ h => h) (Or.inl ⟨by rfl, ?_⟩) ?_ ?_
    rotate_left
    ·intro w'
     go_simp
     with_reducible rfl
    rotate_left
    ·simp only [Act.put, s1, s2, s3, q09, q0a]
     rfl
    refine take_ (i := 7) (N := some 27) (v := ?_) (a' := ?_) #[true, true, true, true, true, true, true, true, true, false, false, false, false, false] rfl rfl (q0m HT_.out HW_.out (by kernel_rfl)) (fun _ _ _ h => h) (Or.inl ⟨by rfl, ?_⟩) hHeld ?_ ?_
    rotate_left
    ·rintro w' ⟨s0, s1, s2, s3, s4, s5, s6, s7, s8⟩
     go_simp
     with_reducible rfl
    rotate_left
    ·simp only [Act.put, s1, s2, s3, q09, q0a]
     rfl
    refine q0e (i := 9) (N := some 29) (v := ?_) (a' := ?_) #[true, true, true, true, true, true, true, true, true, true, false, false, false, false] rfl rfl (q0b HT_.out (by kernel_rfl)) (fun _ _ _ h => h) (Or.inl ⟨by rfl, ?_⟩) ?_ ?_
    rotate_left
    ·intro w'
     go_simp
     with_reducible rfl
    rotate_left
    ·simp only [Act.put, s1, s2, s3, q09, q0a]
     rfl
    refine take_ (i := 10) (N := some 30) (v := ?_) (a' := ?_) #[true, true, true, true, true, true, true, true, true, true, true, false, false, false] rfl rfl (q0m HT_.out HW_.out (by kernel_rfl)) (fun _ _ _ h => h) (Or.inl ⟨by rfl, ?_⟩) hHeld ?_ ?_
    rotate_left
    ·rintro w' ⟨s0, s1, s2, s3, s4, s5, s6, s7, s8⟩
     go_simp
     with_reducible rfl
    rotate_left
    ·simp only [Act.put, s1, s2, s3, q09, q0a]
     rfl
    refine one_ (i := 11) (N := some 31) #[true, true, true, true, true, true, true, true, true, true, true, true, false, false] rfl rfl (q1j HT_.out (by kernel_rfl)) (by decide) (fun K hK => ?_)
    refine goes_ Tryd.func25 (by kernel_rfl) rfl #[.agg #[.slice (some ad411) l0_0.length c0_0, .bool a0_1], .int .i64 (rd ((q00 l0_0 a1).f5) x6_1)] (by rfl) rfl rfl zc ?_
    with_reducible refine (ih k1 (by have := HK1.out; omega) _ _ l0_0 a0_1 (rd ((q00 l0_0 a1).f5) x6_1) t414 _ ?side1 ?side2 A10.out).mono ?_
    (case side1 => repeat (first | exact (Kd.C_below HR0_0.out HB.out) | (with_reducible refine cA ?_ _) | (with_reducible refine cN ?_ _) | (with_reducible refine cD ?_)))
    (case side2 => exact HC0_0.out)
    rintro e w14 ⟨v415, rfl, ho0, hb⟩
    refine ⟨_, rfl, ?_⟩
    have n0_ := aS (Kd.R_elder' (zf HO_5.out) (Kd.R_base ho0) hb)
    have n1_ := aS (Kd.R_lower (Kd.R_new' ho0 (Kd.R_lt (zf HO_5.out))) (q06 (z6 HB.out GE407.out)))
    have n2_ := aS (q01 (g := gb407) (o := .cells #[.slice (some ad411) l0_0.length c0_0, .bool a0_1] 24 (0, 0)) (za BK407.out) hb)
    have n3_ := aS (q02 (z6 HB.out GE407.out) hb)
    clear HO_5
    clear BK407
    clear HB
    have HO_5 := n0_
    have HO416 := n1_
    have BK407 := n2_
    have HB := n3_
    clear n0_ n1_ n2_ n3_
    (try clear hb)
    (try clear hb2)
    (try clear hk)
    (try clear hi)
    (try clear ho0)
    obtain ⟨Ao16, co16, eo16⟩ := Kd.R_slice HO416.out
    (first | subst eo16 | (injection eo16 with f1_ f2_ f3_; have f4_ := f1_.symm; have f5_ := f3_.symm; clear f1_ f2_ f3_; subst f4_; subst f5_))
    refine hK.out _ _ ⟨(q03 BK407.out 0).trans rfl, (q03 BK407.out 1).trans rfl, ((HB.out.cell (World.block_lt_of_cell? w _ hw412_0)).trans hw412_0), ((HB.out.cell (World.block_lt_of_cell? w _ hw412_1)).trans hw412_1), ((HB.out.cell (World.block_lt_of_cell? w _ hw412_2)).trans hw412_2), ((HB.out.cell (World.block_lt_of_cell? w _ hw412_3)).trans hw412_3), ((HB.out.cell (World.block_lt_of_cell? w _ hw412_4)).trans hw412_4), ((HB.out.cell (World.block_lt_of_cell? w _ hw412_5)).trans hw412_5), ((HB.out.cell (World.block_lt_of_cell? w _ hw413_0)).trans hw413_0)⟩ (fun hHeld => ?_)
    clear hK K
    refine norm_ (a' := ?_) ?_ ?_
    rotate_left
    ·show Act.put _ (some 31) _ = _
     simp only [Act.put, s1, s2, s3, q09, q0a]
     rfl
    refine one_ (i := 12) (N := some 32) #[true, true, true, true, true, true, true, true, true, true, true, true, true, false] rfl rfl (q1j HT_.out (by kernel_rfl)) (by decide) (fun K hK => ?_)
    refine Kd.R_append_rows_step (Kd.int .i64) (w0 := w) w.heap.size (by rfl) (.tmp 20) (.tmp 31) 31 3 (.int .i64 0) 8 rfl Tryd.underlying31 info3 rfl (by decide) (by omega) u5 x5_1 t414 _ _ _ (fun k_ => some k_ ≠ (.slice Ao16 t414.length co16 : Value).ownBlock) (fun _ => False) rfl rfl ?aO ?aR (fun _ _ h => h) (fun _ h => h.elim) ?aF ?aB ?aS ?aL ?_
    (case aR => repeat (first | exact (Kd.R_reads' HO416.out).2.2 | (with_reducible refine cA ?_ _) | (with_reducible refine cN ?_ _) | (with_reducible refine cD ?_)))
    (case aB => exact (z6 HB.out GE407.out))
    (case aF => exact (fun k_ hk => Kd.fresh' (Kd.R_lt (zf HO416.out)) k_ hk))
    (case aO => exact (by (with_reducible repeat (first | apply rA | apply rN | apply rD)); exact Kd.R_mono HO_5.out (fun _ hk => hk.2)))
    (case aS => exact (q06 (z6 HB.out GE407.out)))
    (case aL => have := LMc11.out; omega)
    intro v418 w15 ho hb hg hat
    rw [← Ny417.out] at ho
    have n0_ := aS (q0q (g := gb407) (o := .cells #[.slice (some ad411) l0_0.length c0_0, .bool a0_1] 24 (0, 0)) (za BK407.out) hg (Kd.R_ne HO_5.out BK407.out (by decide)))
    have n1_ := aS (Kd.R_after (ok := (fun _ => True)) (zf HO416.out) hg hat)
    have n2_ := aS (hb)
    have n3_ := aS (ho)
    clear BK407
    clear HO416
    clear HB
    clear HO_5
    have BK407 := n0_
    have HO416 := n1_
    have HB := n2_
    have HO419 := n3_
    clear n0_ n1_ n2_ n3_
    clear ho hb hg hat
    refine hK.out _ _ ⟨(q03 BK407.out 0).trans rfl, (q03 BK407.out 1).trans rfl, ((HB.out.cell (World.block_lt_of_cell? w _ hw412_0)).trans hw412_0), ((HB.out.cell (World.block_lt_of_cell? w _ hw412_1)).trans hw412_1), ((HB.out.cell (World.block_lt_of_cell? w _ hw412_2)).trans hw412_2), ((HB.out.cell (World.block_lt_of_cell? w _ hw412_3)).trans hw412_3), ((HB.out.cell (World.block_lt_of_cell? w _ hw412_4)).trans hw412_4), ((HB.out.cell (World.block_lt_of_cell? w _ hw412_5)).trans hw412_5), ((HB.out.cell (World.block_lt_of_cell? w _ hw413_0)).trans hw413_0)⟩ (fun hHeld => ?_)
    clear hK K
    refine norm_ (a' := ?_) ?_ ?_
    rotate_left
    ·show Act.put _ (some 32) _ = _
     simp only [Act.put, s1, s2, s3, q09, q0a]
     rfl
    refine q0e (i := 13) (N := some 5) (v := ?_) (a' := ?_) #[true, true, true, true, true, true, true, true, true, true, true, true, true, true] rfl rfl (q0b HT_.out (by kernel_rfl)) (fun _ _ _ h => h) (Or.inl ⟨by rfl, ?_⟩) ?_ ?_
    rotate_left
    ·intro w'
     go_simp
     with_reducible rfl
    rotate_left
    ·simp only [Act.put, s1, s2, s3, q09, q0a]
     rfl
    refine done_ (q1l HT_.out (by kernel_rfl)) ?_
    try go_wp2
    go_roundg k1
    case measure => have := HK1.out; omega
    case rel => exact ⟨(y417), (wrap64 (x6_1 + 1)), zi, H', ⟨by have := HK1.out; omega⟩, ⟨by (with_reducible repeat (first | apply rA | apply rN | apply rD)); exact Kd.R_mono HO419.out (fun _ hk => trivial)⟩, ⟨by (with_reducible repeat (first | refine kN ?_ _ | refine kD ?_ | refine kA ?_ _)); exact BK407.out⟩, ⟨by repeat (first | (with_reducible first | exact HB.out | apply bA | apply bN | apply bD | refine bS ?_ GE407.out) | exact HB.out)⟩⟩
   case n8 =>
    obtain rfl := Option.some.inj H
    obtain ⟨hczL_0, hczL_1, hfzL_0, hfzL_1⟩ := bk2 BK407.out
    obtain ⟨ad411, A411_2, c411_2, A411_5, c411_5, e411, hx411_0, hx411_1, hx411_2, hx411_3, hx411_4, hx411_5, HC411_2, HR411_2, HC411_5, HR411_5, p411, q411⟩ := q0o HB.out HR0_0.out a1 zb zb
    cases e411
    go_wp2
    go_ret
    exact ⟨_, by first | rfl | (simp [q05, q04] <;> rfl) | (simp [*, q05, q04] <;> rfl), by (with_reducible repeat (first | apply rA | apply rN | apply rD)); exact HO_5.out, by repeat (first | (with_reducible first | exact HB.out | apply bA | apply bN | apply bD | refine bS ?_ GE407.out) | exact HB.out)⟩
end Go.Proofs.YthjnallbbhnndaaDoor.XSp
