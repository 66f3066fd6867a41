/- Written by this session's program (wip/xp) out of the translation as Lean prints it: for each Go function a Lean function and the proof that the code answers just so, on the conditions named in each statement. -/
import Derived.Test.YthecjfkafpndoaaXAc0
import Derived.Test.YthecjfkafpndoaaXAc1
namespace Go.Proofs.Ythecjfkafpndoaa.XAc
open Go.Proofs.Ythecjfkafpndoaa.Short Go.RowKit Go.Proofs.YthecjfkafpndoaaW.PrintWords Go.Proofs.YthecjfkafpndoaaW.PrintLast Go.Proofs.YthecjfkafpndoaaW.PrintMore
attribute [local go_sem] max2_int min2_int max_two min_two max_three min_three max_four min_four   -- for this text's walks alone
set_option linter.unusedVariables false
set_option linter.unusedSimpArgs false

attribute [local go_sem high] eqA99
/-! ### api_HItem_90: function 90, given -/
set_option maxHeartbeats 2000000 in
theorem api_HItem_90.idx (A0 : Option Addr) (c0 : Nat) (l0 : List S25) (p : S25 → Bool) (g : Nat) (lb : Array Value) (eg : ∀ args w, (callFunc g args).run Try.prog w = .ok (.enter g args) w) (w : World) (hr0 : Kd.C k25 w A0 l0.length l0) (hn : l0.length ≤ 9223372036854775807)
 (hp : ∀ W x cs, x ∈ l0 → Below w.heap.size w W → (k25).K W x cs → Calls Try.prog g (#[.agg cs.toArray] ++ lb) W fun e w' => e = .returned (.bool (p x)) ∧ Below W.heap.size W w') :
 Calls Try.prog 90 #[.slice A0 l0.length c0, .func (.func g) #[] lb] w fun e w' => e = .returned (.int .i64 (Cl.idxOf p l0)) ∧ Below w.heap.size w w' := by
 have hC := aS hr0
 have HP := aS hp
 have HN := aS hn
 clear hr0 hp
 go_enter Try.func90, Try.ntmps90
 go_wp2
 go_loopg [5, 8] l0.length (fun gg _ s8 wr => ∃ kk : Nat, kk ≤ l0.length ∧ l0.length - kk ≤ gg ∧ s8 = .int .i64 kk ∧ Aside0 (Below w.heap.size w wr) ∧ Aside0 (∀ j, j < kk → p (l0.getD j z25) = false))
 case atStart => exact ⟨0, Nat.zero_le _, by omega, rfl, ⟨Below.refl _ w⟩, ⟨fun j hj => absurd hj (Nat.not_lt_zero _)⟩⟩
 case round =>
  obtain ⟨kk, hkk, hg, rfl, BW, HA⟩ := hrel
  by_cases hlt : kk < l0.length
  ·have hltz : (kk : Int) < (l0.length : Int) := by omega
   obtain ⟨ad, cs, rfl, hcl, hK, hcc⟩ := Cl.getC (Kd.C_below hC.out BW.out) z25 kk hlt
   have hcall := HP.out wr (l0.getD kk z25) cs (Cl.mem_getD l0 kk z25 hlt) BW.out hK
   have hcl' : cs.length = 3 := hcl
   have hcc' : ∀ j u, cs[j]? = some u → wr.cell? (ad.add (kk * 3 + j)) = some u := hcc
   obtain ⟨u0_, u1_, u2_, rfl⟩ : ∃ u0_ u1_ u2_, cs = [u0_, u1_, u2_] := by
    match cs, hcl' with
    | [u0_, u1_, u2_], _ => exact ⟨u0_, u1_, u2_, rfl⟩
   have hz0 : wr.cell? (ad.add (kk * 3)) = some u0_ := hcc' 0 _ rfl
   have hz1 : wr.cell? ⟨(ad.add (kk * 3)).block, (ad.add (kk * 3)).off + 1, none⟩ = some u1_ := by rw [← add_field _ _ 1 (by omega)]; exact hcc' 1 _ rfl
   have hz2 : wr.cell? ⟨(ad.add (kk * 3)).block, (ad.add (kk * 3)).off + 2, none⟩ = some u2_ := by rw [← add_field _ _ 2 (by omega)]; exact hcc' 2 _ rfl
   replace hcall : Calls Try.prog g (#[.agg #[u0_, u1_, u2_]] ++ lb) wr _ := hcall
   clear hcl hcc hK hcc'
   obtain ⟨x, hx⟩ : ∃ x, l0.getD kk z25 = x := ⟨_, rfl⟩
   rw [hx] at hcall
   have HX := aS hx
   clear hx
   cases hq : p x with
   | true =>
    rw [hq] at hcall
    have HQ := aS hq
    clear hq
    go_wp2_with (go_at_fn g; refine hcall.mono ?_; rintro e w' ⟨rfl, hb'⟩)
    go_ret
    refine ⟨?_, BW.out.trans (hb'.mono BW.out.size)⟩
    rw [Cl.idxOf_hit p z25 l0 kk hlt (by rw [HX.out]; exact HQ.out) HA.out]
    rfl
   | false =>
    rw [hq] at hcall
    have HQ := aS hq
    clear hq
    go_wp2_with (go_at_fn g; refine hcall.mono ?_; rintro e w' ⟨rfl, hb'⟩)
    go_roundg (l0.length - (kk + 1))
    case measure => omega
    case rel =>
     refine ⟨kk + 1, by omega, by omega, by go_num, ⟨BW.out.trans (hb'.mono BW.out.size)⟩, ⟨fun j hj => ?_⟩⟩
     by_cases e : j = kk
     ·subst e
      rw [HX.out]; exact HQ.out
     ·exact HA.out j (by omega)
  ·have hltz : ¬ (kk : Int) < (l0.length : Int) := by omega
   have : kk = l0.length := by omega
   subst this
   go_wp2
   go_ret
   refine ⟨?_, BW.out⟩
   rw [Cl.idxOf_miss p z25 l0 HA.out]
   rfl


/-! ### api_HItem_54: function 54, given -/
set_option maxHeartbeats 1000000 in
theorem api_HItem_54.has (A0 : Option Addr) (c0 : Nat) (l0 : List S25) (p : S25 → Bool) (g : Nat) (lb : Array Value) (eg : ∀ args w, (callFunc g args).run Try.prog w = .ok (.enter g args) w) (w : World) (hr0 : Kd.C k25 w A0 l0.length l0) (hn : l0.length ≤ 9223372036854775807)
 (hp : ∀ W x cs, x ∈ l0 → Below w.heap.size w W → (k25).K W x cs → Calls Try.prog g (#[.agg cs.toArray] ++ lb) W fun e w' => e = .returned (.bool (p x)) ∧ Below W.heap.size W w') :
 Calls Try.prog 54 #[.slice A0 l0.length c0, .func (.func g) #[] lb] w fun e w' => e = .returned (.bool (l0.any p)) ∧ Below w.heap.size w w' := by
 have hI := api_HItem_90.idx A0 c0 l0 p g lb eg w hr0 hn hp
 rw [← Cl.idxOf_any p l0]
 obtain ⟨q, hq⟩ : ∃ q, Cl.idxOf p l0 = q := ⟨_, rfl⟩
 rw [hq] at hI ⊢
 clear hq hr0 hp
 go_enter Try.func54, Try.ntmps54
 go_wp2_with (go_at_call 90; refine hI.mono ?_; rintro e w' ⟨rfl, hb'⟩)
 go_ret
 exact ⟨rfl, hb'⟩


/-! ### active_Marker: function 56 -/
def active_Marker.f (a0_0 : Int) (a0_1 : ByteArray) (l0_2 : List (S99)) : Option (Bool) := some (a0_0 == (-1))
set_option maxHeartbeats 8000000 in
set_option maxRecDepth 100000 in
theorem active_Marker.calls (a0_0 : Int) (a0_1 : ByteArray) (A0_2 : Option Addr) (c0_2 : Nat) (l0_2 : List (S99)) (r : Bool) (w : World) (hr0_2 : Kd.C k99 w A0_2 l0_2.length l0_2) (hc0_2 : l0_2.length ≤ c0_2) (h : active_Marker.f a0_0 a0_1 l0_2 = some r) :
 Calls Try.prog 56 #[.agg #[.int .i64 a0_0, .string a0_1, .slice A0_2 l0_2.length c0_2]] w fun e w' => e = .returned (.bool r) ∧ Below w.heap.size w w' := by
 have hu25 := Try.underlying25
 have HR0_2 := aS hr0_2
 have HC0_2 := aS hc0_2
 clear hr0_2 hc0_2
 have HB := aS (Below.refl w.heap.size w)
 have H : (some (a0_0 == (-1))) = some r := h
 clear h
 obtain rfl := Option.some.inj H
 go_enter Try.func56, Try.ntmps56
 go_wp2_with (first | ((with_reducible refine gate_dst (N := 1) rfl ?_); refine box_event ?hg (N := 1) ?hd (cs := #[.int .i64 a0_0, .string a0_1, .slice A0_2 l0_2.length c0_2]) (t := 25) ?hr ?_; (case hd => rfl); (case hg => rfl); (case hr => first | (go_simp; done) | (go_simp; rfl)); intro gb101 hg w2 hbox hb; have n0_ := aS (below_step (by repeat (first | (with_reducible first | exact HB.out | apply bA | apply bN | apply bD) | exact HB.out)) hb); have n1_ := aS (hbox); have n2_ := aS ((by rw [hg]; exact (below_size (by repeat (first | (with_reducible first | exact HB.out | apply bA | apply bN | apply bD) | exact HB.out))) : w.heap.size ≤ gb101)); have n3_ := aS ((by rw [hg]; exact (below_size (by repeat (first | (with_reducible first | exact HB.out | apply bA | apply bN | apply bD) | exact HB.out))) : w.heap.size ≤ gb101)); clear HB; have HB := n0_; have BK101 := n1_; have GW101 := n2_; have GE101 := n3_; clear n0_ n1_ n2_ n3_; clear hb hbox hg; have hcz3_0 : w2.cell? ⟨gb101, 0, none⟩ = some (.int .i64 a0_0) := (blk_cell BK101.out 0).trans rfl; have hcz3_1 : w2.cell? ⟨gb101, 1, none⟩ = some (.string a0_1) := (blk_cell BK101.out 1).trans rfl; have hcz3_2 : w2.cell? ⟨gb101, 2, none⟩ = some (.slice A0_2 l0_2.length c0_2) := (blk_cell BK101.out 2).trans rfl; have hfz3_0 := blk_frozen BK101.out 0; have hfz3_1 := blk_frozen BK101.out 1; have hfz3_2 := blk_frozen BK101.out 2))
 go_ret
 exact ⟨by first | rfl | (simp [errW_none, errW_some] <;> rfl) | (simp [*, errW_none, errW_some] <;> rfl), by repeat (first | (with_reducible first | exact HB.out | apply bA | apply bN | apply bD | refine bS ?_ GE101.out) | exact HB.out)⟩

/-! ### active_Check_1: function 55 -/
def active_Check_1.f (a0_0 : Int) (a0_1 : ByteArray) (l0_2 : List (S99)) : Option (Bool) := if a0_0 < (-1) then (some true) else ((active_Marker.f a0_0 a0_1 l0_2).bind fun t103 => (if t103 = true then (if a0_1.toList = ([] : List UInt8) then (some (decide ((l0_2.length : Int) > 0))) else (some true)) else (some false)))
set_option maxHeartbeats 8000000 in
set_option maxRecDepth 100000 in
theorem active_Check_1.calls (a0_0 : Int) (a0_1 : ByteArray) (A0_2 : Option Addr) (c0_2 : Nat) (l0_2 : List (S99)) (r : Bool) (w : World) (hr0_2 : Kd.C k99 w A0_2 l0_2.length l0_2) (hc0_2 : l0_2.length ≤ c0_2) (h : active_Check_1.f a0_0 a0_1 l0_2 = some r) :
 Calls Try.prog 55 #[.agg #[.int .i64 a0_0, .string a0_1, .slice A0_2 l0_2.length c0_2]] w fun e w' => e = .returned (.bool r) ∧ Below w.heap.size w w' := by
 have hu25 := Try.underlying25
 have HR0_2 := aS hr0_2
 have HC0_2 := aS hc0_2
 clear hr0_2 hc0_2
 have HB := aS (Below.refl w.heap.size w)
 have H : (if a0_0 < (-1) then (some true) else ((active_Marker.f a0_0 a0_1 l0_2).bind fun t103 => (if t103 = true then (if a0_1.toList = ([] : List UInt8) then (some (decide ((l0_2.length : Int) > 0))) else (some true)) else (some false)))) = some r := h
 clear h
 by_cases c2 : a0_0 < (-1)
 ·rw [if_pos c2] at H
  have c2b0 : decide (a0_0 < (-1)) = true := decide_eq_true c2
  clear c2
  obtain rfl := Option.some.inj H
  go_enter Try.func55, Try.ntmps55
  go_wp2_with (first | ((with_reducible refine gate_dst (N := 1) rfl ?_); (try (refine gate_guard (by rfl) ?_; dsimp only)); refine box_event ?hg (N := 1) ?hd (cs := #[.int .i64 a0_0, .string a0_1, .slice A0_2 l0_2.length c0_2]) (t := 25) ?hr ?_; (case hd => rfl); (case hg => rfl); (case hr => first | (go_simp; done) | (go_simp; rfl)); intro gb102 hg w3 hbox hb; have n0_ := aS (below_step (by repeat (first | (with_reducible first | exact HB.out | apply bA | apply bN | apply bD) | exact HB.out)) hb); have n1_ := aS (hbox); have n2_ := aS ((by rw [hg]; exact (below_size (by repeat (first | (with_reducible first | exact HB.out | apply bA | apply bN | apply bD) | exact HB.out))) : w.heap.size ≤ gb102)); have n3_ := aS ((by rw [hg]; exact (below_size (by repeat (first | (with_reducible first | exact HB.out | apply bA | apply bN | apply bD) | exact HB.out))) : w.heap.size ≤ gb102)); clear HB; have HB := n0_; have BK102 := n1_; have GW102 := n2_; have GE102 := n3_; clear n0_ n1_ n2_ n3_; clear hb hbox hg; have hcz4_0 : w3.cell? ⟨gb102, 0, none⟩ = some (.int .i64 a0_0) := (blk_cell BK102.out 0).trans rfl; have hcz4_1 : w3.cell? ⟨gb102, 1, none⟩ = some (.string a0_1) := (blk_cell BK102.out 1).trans rfl; have hcz4_2 : w3.cell? ⟨gb102, 2, none⟩ = some (.slice A0_2 l0_2.length c0_2) := (blk_cell BK102.out 2).trans rfl; have hfz4_0 := blk_frozen BK102.out 0; have hfz4_1 := blk_frozen BK102.out 1; have hfz4_2 := blk_frozen BK102.out 2))
  go_ret
  exact ⟨by first | rfl | (simp [errW_none, errW_some] <;> rfl) | (simp [*, errW_none, errW_some] <;> rfl), by repeat (first | (with_reducible first | exact HB.out | apply bA | apply bN | apply bD | refine bS ?_ GE102.out) | exact HB.out)⟩
 ·rw [if_neg c2] at H
  have c2b0 : decide (a0_0 < (-1)) = false := decide_eq_false c2
  clear c2
  replace H := Option.bind_eq_some_iff.mp H
  obtain ⟨t103, A50, H⟩ := H
  replace H : (if t103 = true then (if a0_1.toList = ([] : List UInt8) then (some (decide ((l0_2.length : Int) > 0))) else (some true)) else (some false)) = some r := H
  have A5 := aS A50
  clear A50
  by_cases c6 : t103 = true
  ·subst c6
   have H1 : (if a0_1.toList = ([] : List UInt8) then (some (decide ((l0_2.length : Int) > 0))) else (some true)) = some r := by rw [if_pos rfl] at H; exact H
   clear H
   have H := H1
   clear H1
   by_cases c7 : a0_1.toList = ([] : List UInt8)
   ·rw [if_pos c7] at H
    have c7b0 : (a0_1.toList == ([] : List UInt8)) = true := beq_iff_eq.mpr c7
    have c7b1 : (a0_1.toList != ([] : List UInt8)) = false := bne_eq_false_iff_eq.mpr c7
    clear c7
    obtain rfl := Option.some.inj H
    go_enter Try.func55, Try.ntmps55
    go_wp2_with (first | ((with_reducible refine gate_dst (N := 1) rfl ?_); (try (refine gate_guard (by rfl) ?_; dsimp only)); refine box_event ?hg (N := 1) ?hd (cs := #[.int .i64 a0_0, .string a0_1, .slice A0_2 l0_2.length c0_2]) (t := 25) ?hr ?_; (case hd => rfl); (case hg => rfl); (case hr => first | (go_simp; done) | (go_simp; rfl)); intro gb102 hg w8 hbox hb; have n0_ := aS (below_step (by repeat (first | (with_reducible first | exact HB.out | apply bA | apply bN | apply bD) | exact HB.out)) hb); have n1_ := aS (hbox); have n2_ := aS ((by rw [hg]; exact (below_size (by repeat (first | (with_reducible first | exact HB.out | apply bA | apply bN | apply bD) | exact HB.out))) : w.heap.size ≤ gb102)); have n3_ := aS ((by rw [hg]; exact (below_size (by repeat (first | (with_reducible first | exact HB.out | apply bA | apply bN | apply bD) | exact HB.out))) : w.heap.size ≤ gb102)); clear HB; have HB := n0_; have BK102 := n1_; have GW102 := n2_; have GE102 := n3_; clear n0_ n1_ n2_ n3_; clear hb hbox hg; have hcz9_0 : w8.cell? ⟨gb102, 0, none⟩ = some (.int .i64 a0_0) := (blk_cell BK102.out 0).trans rfl; have hcz9_1 : w8.cell? ⟨gb102, 1, none⟩ = some (.string a0_1) := (blk_cell BK102.out 1).trans rfl; have hcz9_2 : w8.cell? ⟨gb102, 2, none⟩ = some (.slice A0_2 l0_2.length c0_2) := (blk_cell BK102.out 2).trans rfl; have hfz9_0 := blk_frozen BK102.out 0; have hfz9_1 := blk_frozen BK102.out 1; have hfz9_2 := blk_frozen BK102.out 2) | (go_at_call 56; (with_reducible refine (active_Marker.calls a0_0 a0_1 _ _ l0_2 true _ ?side1 ?side2 A5.out).mono ?_); (case side1 => repeat (first | exact (Kd.C_below HR0_2.out HB.out) | (with_reducible refine cA ?_ _) | (with_reducible refine cN ?_ _) | (with_reducible refine cD ?_))); (case side2 => exact HC0_2.out); rintro e w10 ⟨rfl, hb⟩; have n0_ := aS (blk_below (g := gb102) (o := .cells #[.int .i64 a0_0, .string a0_1, .slice A0_2 l0_2.length c0_2] 25 (0, 0)) (by (with_reducible repeat (first | refine kN ?_ _ | refine kD ?_ | refine kA ?_ _)); exact BK102.out) hb); have n1_ := aS (below_step (by repeat (first | (with_reducible first | exact HB.out | apply bA | apply bN | apply bD | refine bS ?_ GE102.out) | exact HB.out)) hb); clear BK102; clear HB; have BK102 := n0_; have HB := n1_; clear n0_ n1_; (try clear hb); (try clear hb2); (try clear hk); (try clear hi); have hcz11_0 : w10.cell? ⟨gb102, 0, none⟩ = some (.int .i64 a0_0) := (blk_cell BK102.out 0).trans rfl; have hcz11_1 : w10.cell? ⟨gb102, 1, none⟩ = some (.string a0_1) := (blk_cell BK102.out 1).trans rfl; have hcz11_2 : w10.cell? ⟨gb102, 2, none⟩ = some (.slice A0_2 l0_2.length c0_2) := (blk_cell BK102.out 2).trans rfl; have hfz11_0 := blk_frozen BK102.out 0; have hfz11_1 := blk_frozen BK102.out 1; have hfz11_2 := blk_frozen BK102.out 2))
    go_ret
    exact ⟨by first | rfl | (simp [errW_none, errW_some] <;> rfl) | (simp [*, errW_none, errW_some] <;> rfl), by repeat (first | (with_reducible first | exact HB.out | apply bA | apply bN | apply bD | refine bS ?_ GE102.out) | exact HB.out)⟩
   ·rw [if_neg c7] at H
    have c7b0 : (a0_1.toList == ([] : List UInt8)) = false := beq_eq_false_iff_ne.mpr c7
    have c7b1 : (a0_1.toList != ([] : List UInt8)) = true := bne_iff_ne.mpr c7
    obtain rfl := Option.some.inj H
    go_enter Try.func55, Try.ntmps55
    go_wp2_with (first | ((with_reducible refine gate_dst (N := 1) rfl ?_); (try (refine gate_guard (by rfl) ?_; dsimp only)); refine box_event ?hg (N := 1) ?hd (cs := #[.int .i64 a0_0, .string a0_1, .slice A0_2 l0_2.length c0_2]) (t := 25) ?hr ?_; (case hd => rfl); (case hg => rfl); (case hr => first | (go_simp; done) | (go_simp; rfl)); intro gb102 hg w12 hbox hb; have n0_ := aS (below_step (by repeat (first | (with_reducible first | exact HB.out | apply bA | apply bN | apply bD) | exact HB.out)) hb); have n1_ := aS (hbox); have n2_ := aS ((by rw [hg]; exact (below_size (by repeat (first | (with_reducible first | exact HB.out | apply bA | apply bN | apply bD) | exact HB.out))) : w.heap.size ≤ gb102)); have n3_ := aS ((by rw [hg]; exact (below_size (by repeat (first | (with_reducible first | exact HB.out | apply bA | apply bN | apply bD) | exact HB.out))) : w.heap.size ≤ gb102)); clear HB; have HB := n0_; have BK102 := n1_; have GW102 := n2_; have GE102 := n3_; clear n0_ n1_ n2_ n3_; clear hb hbox hg; have hcz13_0 : w12.cell? ⟨gb102, 0, none⟩ = some (.int .i64 a0_0) := (blk_cell BK102.out 0).trans rfl; have hcz13_1 : w12.cell? ⟨gb102, 1, none⟩ = some (.string a0_1) := (blk_cell BK102.out 1).trans rfl; have hcz13_2 : w12.cell? ⟨gb102, 2, none⟩ = some (.slice A0_2 l0_2.length c0_2) := (blk_cell BK102.out 2).trans rfl; have hfz13_0 := blk_frozen BK102.out 0; have hfz13_1 := blk_frozen BK102.out 1; have hfz13_2 := blk_frozen BK102.out 2) | (go_at_call 56; (with_reducible refine (active_Marker.calls a0_0 a0_1 _ _ l0_2 true _ ?side1 ?side2 A5.out).mono ?_); (case side1 => repeat (first | exact (Kd.C_below HR0_2.out HB.out) | (with_reducible refine cA ?_ _) | (with_reducible refine cN ?_ _) | (with_reducible refine cD ?_))); (case side2 => exact HC0_2.out); rintro e w14 ⟨rfl, hb⟩; have n0_ := aS (blk_below (g := gb102) (o := .cells #[.int .i64 a0_0, .string a0_1, .slice A0_2 l0_2.length c0_2] 25 (0, 0)) (by (with_reducible repeat (first | refine kN ?_ _ | refine kD ?_ | refine kA ?_ _)); exact BK102.out) hb); have n1_ := aS (below_step (by repeat (first | (with_reducible first | exact HB.out | apply bA | apply bN | apply bD | refine bS ?_ GE102.out) | exact HB.out)) hb); clear BK102; clear HB; have BK102 := n0_; have HB := n1_; clear n0_ n1_; (try clear hb); (try clear hb2); (try clear hk); (try clear hi); have hcz15_0 : w14.cell? ⟨gb102, 0, none⟩ = some (.int .i64 a0_0) := (blk_cell BK102.out 0).trans rfl; have hcz15_1 : w14.cell? ⟨gb102, 1, none⟩ = some (.string a0_1) := (blk_cell BK102.out 1).trans rfl; have hcz15_2 : w14.cell? ⟨gb102, 2, none⟩ = some (.slice A0_2 l0_2.length c0_2) := (blk_cell BK102.out 2).trans rfl; have hfz15_0 := blk_frozen BK102.out 0; have hfz15_1 := blk_frozen BK102.out 1; have hfz15_2 := blk_frozen BK102.out 2))
    go_ret
    exact ⟨by first | rfl | (simp [errW_none, errW_some] <;> rfl) | (simp [*, errW_none, errW_some] <;> rfl), by repeat (first | (with_reducible first | exact HB.out | apply bA | apply bN | apply bD | refine bS ?_ GE102.out) | exact HB.out)⟩
  ·replace c6 := Bool.eq_false_iff.mpr c6
   subst c6
   have H1 : (some false) = some r := by rw [if_neg (show ¬ (false = true) by decide)] at H; exact H
   clear H
   have H := H1
   clear H1
   obtain rfl := Option.some.inj H
   go_enter Try.func55, Try.ntmps55
   go_wp2_with (first | ((with_reducible refine gate_dst (N := 1) rfl ?_); (try (refine gate_guard (by rfl) ?_; dsimp only)); refine box_event ?hg (N := 1) ?hd (cs := #[.int .i64 a0_0, .string a0_1, .slice A0_2 l0_2.length c0_2]) (t := 25) ?hr ?_; (case hd => rfl); (case hg => rfl); (case hr => first | (go_simp; done) | (go_simp; rfl)); intro gb102 hg w16 hbox hb; have n0_ := aS (below_step (by repeat (first | (with_reducible first | exact HB.out | apply bA | apply bN | apply bD) | exact HB.out)) hb); have n1_ := aS (hbox); have n2_ := aS ((by rw [hg]; exact (below_size (by repeat (first | (with_reducible first | exact HB.out | apply bA | apply bN | apply bD) | exact HB.out))) : w.heap.size ≤ gb102)); have n3_ := aS ((by rw [hg]; exact (below_size (by repeat (first | (with_reducible first | exact HB.out | apply bA | apply bN | apply bD) | exact HB.out))) : w.heap.size ≤ gb102)); clear HB; have HB := n0_; have BK102 := n1_; have GW102 := n2_; have GE102 := n3_; clear n0_ n1_ n2_ n3_; clear hb hbox hg; have hcz17_0 : w16.cell? ⟨gb102, 0, none⟩ = some (.int .i64 a0_0) := (blk_cell BK102.out 0).trans rfl; have hcz17_1 : w16.cell? ⟨gb102, 1, none⟩ = some (.string a0_1) := (blk_cell BK102.out 1).trans rfl; have hcz17_2 : w16.cell? ⟨gb102, 2, none⟩ = some (.slice A0_2 l0_2.length c0_2) := (blk_cell BK102.out 2).trans rfl; have hfz17_0 := blk_frozen BK102.out 0; have hfz17_1 := blk_frozen BK102.out 1; have hfz17_2 := blk_frozen BK102.out 2) | (go_at_call 56; (with_reducible refine (active_Marker.calls a0_0 a0_1 _ _ l0_2 false _ ?side1 ?side2 A5.out).mono ?_); (case side1 => repeat (first | exact (Kd.C_below HR0_2.out HB.out) | (with_reducible refine cA ?_ _) | (with_reducible refine cN ?_ _) | (with_reducible refine cD ?_))); (case side2 => exact HC0_2.out); rintro e w18 ⟨rfl, hb⟩; have n0_ := aS (blk_below (g := gb102) (o := .cells #[.int .i64 a0_0, .string a0_1, .slice A0_2 l0_2.length c0_2] 25 (0, 0)) (by (with_reducible repeat (first | refine kN ?_ _ | refine kD ?_ | refine kA ?_ _)); exact BK102.out) hb); have n1_ := aS (below_step (by repeat (first | (with_reducible first | exact HB.out | apply bA | apply bN | apply bD | refine bS ?_ GE102.out) | exact HB.out)) hb); clear BK102; clear HB; have BK102 := n0_; have HB := n1_; clear n0_ n1_; (try clear hb); (try clear hb2); (try clear hk); (try clear hi)))
   go_ret
   exact ⟨by first | rfl | (simp [errW_none, errW_some] <;> rfl) | (simp [*, errW_none, errW_some] <;> rfl), by repeat (first | (with_reducible first | exact HB.out | apply bA | apply bN | apply bD | refine bS ?_ GE102.out) | exact HB.out)⟩

/-! ### active_Check: function 16, given -/
def active_Check.bad (x : S25) : Bool := (active_Check_1.f x.f0 x.f1 x.f2).getD false
def active_Check.f (l0 : List S25) : Option Int := if l0.length * 48 ≤ 140737488355328 ∧ l0.all (fun x => (active_Check_1.f x.f0 x.f1 x.f2).isSome) = true then some (if 60 < l0.length then 2 else if l0.any active_Check.bad = true then 3 else 0) else none
theorem active_Check.calls (A0 : Option Addr) (c0 : Nat) (l0 : List S25) (r : Int) (w : World) (hr0 : Kd.C k25 w A0 l0.length l0) (hc0 : l0.length ≤ c0) (h : active_Check.f l0 = some r) :
 Calls Try.prog 16 #[.slice A0 l0.length c0] w fun e w' => e = .returned (.int .i64 r) ∧ Below w.heap.size w w' := by
 unfold active_Check.f at h
 split at h
 ·rename_i hs
  obtain ⟨hs0, hs1⟩ := hs
  have eg : ∀ args w, (callFunc 55 args).run Try.prog w = .ok (.enter 55 args) w := enters_of Try.func55 (by kernel_rfl) rfl
  have hH := api_HItem_54.has A0 c0 l0 active_Check.bad 55 #[] eg w hr0 (by omega) (fun W x cs hx hb hK => by
   obtain ⟨A2, c2, rfl, hl, hC⟩ := k25_open hK
   have hx1 := List.all_eq_true.1 hs1 x hx
   obtain ⟨b, hb1⟩ := Option.isSome_iff_exists.1 hx1
   rw [show active_Check.bad x = b by unfold active_Check.bad; rw [hb1]; rfl]
   exact active_Check_1.calls x.f0 x.f1 A2 c2 x.f2 b W hC hl hb1)
  have hr := Option.some.inj h
  clear h hs1 hr0
  obtain ⟨b, hb⟩ : ∃ b, l0.any active_Check.bad = b := ⟨_, rfl⟩
  rw [hb] at hH hr
  clear hb
  have HR := aS hr
  clear hr
  by_cases h60 : 60 < l0.length
  ·have h60z : (60 : Int) < (l0.length : Int) := by omega
   have hr := HR.out
   rw [if_pos h60] at hr
   subst hr
   go_enter Try.func16, Try.ntmps16
   go_wp2
   go_ret
   exact ⟨rfl, Below.refl _ _⟩
  ·have h60z : ¬ (60 : Int) < (l0.length : Int) := by omega
   have hr := HR.out
   rw [if_neg h60] at hr
   clear HR
   cases b with
   | true =>
    rw [if_pos rfl] at hr
    subst hr
    go_enter Try.func16, Try.ntmps16
    go_wp2_with (go_at_call 54; refine hH.mono ?_; rintro e w' ⟨rfl, hb'⟩)
    go_ret
    exact ⟨rfl, hb'⟩
   | false =>
    rw [if_neg (by decide)] at hr
    subst hr
    go_enter Try.func16, Try.ntmps16
    go_wp2_with (go_at_call 54; refine hH.mono ?_; rintro e w' ⟨rfl, hb'⟩)
    go_ret
    exact ⟨rfl, hb'⟩
 ·cases h


/-! ### api_HItem_49: function 49, given -/
def api_HItem_49.f (l0 : List S25) : Option (List S25) := if l0.length * 48 ≤ 140737488355328 then some l0 else none
set_option maxHeartbeats 2000000 in
theorem api_HItem_49.calls (P0_ : Nat → Prop) (A0 : Option Addr) (c0 : Nat) (l0 : List S25) (r : List S25) (w : World) (hs0 : Kd.V k25 25 w w.heap.size (fun k_ => P0_ k_) (.slice A0 l0.length c0) l0) (h : api_HItem_49.f l0 = some r) :
 Calls Try.prog 49 #[.slice A0 l0.length c0] w fun e w' => ∃ v0_ : Value, e = .returned (v0_) ∧ Kd.N k25 25 w' w.heap.size (fun k_ => (P0_ k_ ∨ w.heap.size ≤ k_)) v0_ r ∧ Below w.heap.size w w' := by
 unfold api_HItem_49.f at h
 split at h
 ·rename_i hsz0
  obtain rfl := Option.some.inj h
  clear h
  have hsz := aS hsz0
  clear hsz0
  have hV := aS hs0
  clear hs0
  have qnil : ∀ (w : World) (a : Option Addr) (n c n' c' : Nat), (binOp .eql 22 (.slice a n c) (.slice none n' c')).run Try.prog w = .ok (.bool a.isNone) w := fun w a n c n' c' => Lib.run_eql_slice_nil w _ _ a n c n' c' Try.underlying22
  cases A0 with
  | none =>
   obtain rfl : l0 = [] := by
    cases l0 with
    | nil => rfl
    | cons x t =>
     obtain ⟨ad, he, _⟩ := (Kd.V_reads' hV.out).2.2.2.2 (by simp)
     cases he
   go_enter Try.func49, Try.ntmps49
   go_wp2
   go_ret
   exact ⟨_, rfl, Kd.N_nil _ _ _ _ _, Below.refl _ _⟩
  | some ad =>
   go_enter Try.func49, Try.ntmps49
   go_wp2_with (at_builtin; refine Kd.N_append_rows k25 (w0 := w) w.heap.size rfl (.tmp 5) (.tmp 6) 22 25 (.agg #[(.int .i64 0), (.string ⟨#[]⟩), (.slice none 0 0)]) 48 rfl Try.underlying22 info25 rfl (by decide) (by omega) (.slice (some ⟨w.heap.size, 0, none⟩) 0 0) ([] : List S25) l0 (some ad) _ c0 (fun k_ => (P0_ k_ ∨ w.heap.size ≤ k_)) (fun k_ => P0_ k_ ∧ k_ < w.heap.size) rfl rfl ?hO ?hR ?hokp ?hfr ?hB ?hba ?hl ?_)
   case hO => exact ⟨fun k hk => .inr (by have h2 := Option.some.inj (show some w.heap.size = some k from hk); omega), [], rfl, ⟨fun _ hk => hk.symm, [], World.ownsRow_made w #[] 0 (Nat.le_refl _) (Nat.zero_le _) (by simp), Reps.none _ _⟩, fun j x c hx => by simp at hx⟩
   case hR => exact Kd.F_step (Kd.F_bound (Kd.V_F hV.out)) (fun k hk _ => heap_alloc_old w _ hk.2)
   case hokp => exact fun k hk => ⟨.inl hk.1, by have := hk.2; simp [Value.ownBlock]; omega⟩
   case hfr => exact fun k hk => .inr (Nat.le_trans (by simp) hk)
   case hB => exact (Below.refl _ w).alloc (Nat.le_refl _) _
   case hba => simp
   case hl => have := hsz.out; simpa using this
   intro v1 w1 hown hb hg hat
   go_wp2
   go_ret
   exact ⟨_, rfl, by simpa using hown, hb⟩
 ·cases h


/-! ### api_Attr_85: function 85, given -/
def api_Attr_85.f (l0 : List S99) : Option (List S99) := if l0.length * 32 ≤ 140737488355328 then some l0 else none
set_option maxHeartbeats 2000000 in
theorem api_Attr_85.calls (A0 : Option Addr) (c0 : Nat) (l0 : List S99) (r : List S99) (w : World) (hr0 : Kd.C k99 w A0 l0.length l0) (hc0 : l0.length ≤ c0) (h : api_Attr_85.f l0 = some r) :
 Calls Try.prog 85 #[.slice A0 l0.length c0] w fun e w' => ∃ v0_ : Value, e = .returned (v0_) ∧ Kd.R k99 99 w' w.heap.size (fun _ => True) v0_ r ∧ Below w.heap.size w w' := by
 unfold api_Attr_85.f at h
 split at h
 ·rename_i hsz0
  obtain rfl := Option.some.inj h
  clear h
  have hsz := aS hsz0
  clear hsz0
  have hC := aS hr0
  clear hr0
  have qnil : ∀ (w : World) (a : Option Addr) (n c n' c' : Nat), (binOp .eql 23 (.slice a n c) (.slice none n' c')).run Try.prog w = .ok (.bool a.isNone) w := fun w a n c n' c' => Lib.run_eql_slice_nil w _ _ a n c n' c' Try.underlying23
  cases A0 with
  | none =>
   obtain rfl : l0 = [] := by
    cases l0 with
    | nil => rfl
    | cons x t =>
     obtain ⟨ad, he, _⟩ := hC.out.2.2 (by simp)
     cases he
   go_enter Try.func85, Try.ntmps85
   go_wp2
   go_ret
   exact ⟨_, rfl, Kd.R_nil _ _ _ _ _, Below.refl _ _⟩
  | some ad =>
   go_enter Try.func85, Try.ntmps85
   go_wp2_with (at_builtin; refine Kd.R_append_rows k99 (Rr := fun x cs => Kd.K k99 w x cs) (w0 := w) w.heap.size rfl (.tmp 5) (.tmp 6) 23 99 (.agg #[(.string ⟨#[]⟩), (.string ⟨#[]⟩)]) 32 rfl Try.underlying23 info99 rfl (by decide) (by omega) (.slice (some ⟨w.heap.size, 0, none⟩) 0 0) ([] : List S99) l0 (some ad) _ c0 (fun _ => True) (fun _ => False) rfl rfl ?hO ?hR ?hKM (fun _ hk => hk.elim) (fun _ _ => trivial) ?hB ?hba ?hl ?_)
   case hO => exact ⟨fun _ _ => trivial, [], World.ownsRow_made w #[] 0 (Nat.le_refl _) (Nat.zero_le _) (by simp), Reps.none _ _⟩
   case hR => exact ReadsRow.imp_ hC.out ((Below.refl _ w).alloc (Nat.le_refl _) _) (fun _ _ h => h)
   case hKM => exact fun _ _ h => h
   case hB => exact (Below.refl _ w).alloc (Nat.le_refl _) _
   case hba => simp
   case hl => have := hsz.out; simpa using this
   intro v1 w1 hown hb hg hat
   go_wp2
   go_ret
   exact ⟨_, rfl, by simpa using hown, hb⟩
 ·cases h


/-! ### active_own: function 48 -/
def active_own.l0 : Nat → List (S25) → Int → Int → Option ((List (S25)))
 | 0, _, _, _ => none
 | k + 1, x3, x8, x9 => if x9 < x8 then (if 0 ≤ x9 then (if x9 < (x3.length : Int) then ((api_Attr_85.f ((rd_T25 x3 x9).f2)).bind fun t108 => (active_own.l0 k (x3.set (x9 : Int).toNat (⟨(rd_T25 x3 x9).f0, (rd_T25 x3 x9).f1, t108⟩ : S25)) x8 (wrap64 (x9 + 1)))) else (none)) else (none)) else (some x3)
def active_own.f (k : Nat) (l0 : List (S25)) : Option ((List (S25))) := (api_HItem_49.f l0).bind fun t104 => (active_own.l0 k t104 (t104.length : Int) 0)
theorem active_own.mono_l : ∀ k, (∀ y0 y1 y2, LeO (active_own.l0 k y0 y1 y2) (active_own.l0 (k + 1) y0 y1 y2))
 | 0 => fun _ _ _ r h => by simp [active_own.l0] at h
 | k + 1 => by
  have ih0 := active_own.mono_l k
  ·intro y0 y1 y2
   unfold active_own.l0
   repeat' first
   | (with_reducible exact ih0 _ _ _)
   | (with_reducible exact LeO.refl _)
   | (with_reducible exact LeO.none _)
   | (with_reducible refine LeO.ite ?_ ?_)
   | (with_reducible refine LeO.bind ?_ (fun _ => ?_))
   | exact ih0 _ _ _
   | exact LeO.none _
   | refine LeO.ite ?_ ?_
   | refine LeO.bind ?_ (fun _ => ?_)
theorem active_own.mono : ∀ a0 k, LeO (active_own.f k a0) (active_own.f (k + 1) a0) := by
 intro a0 k
 have ih0 := active_own.mono_l k
 unfold active_own.f
 repeat' first
  | (with_reducible exact ih0 _ _ _)
  | (with_reducible exact LeO.refl _)
  | (with_reducible exact LeO.none _)
  | (with_reducible refine LeO.ite ?_ ?_)
  | (with_reducible refine LeO.bind ?_ (fun _ => ?_))
  | exact ih0 _ _ _
  | exact LeO.none _
  | refine LeO.ite ?_ ?_
  | refine LeO.bind ?_ (fun _ => ?_)
set_option maxHeartbeats 8000000 in
set_option maxRecDepth 100000 in
theorem active_own.calls (k : Nat) (P0_ : Nat → Prop) (A0 : Option Addr) (c0 : Nat) (l0 : List (S25)) (r : List (S25)) (w : World) (hs0 : Kd.V k25 25 w w.heap.size (fun k_ => P0_ k_) (.slice A0 l0.length c0) l0) (h : active_own.f k l0 = some r) :
 Calls Try.prog 48 #[.slice A0 l0.length c0] w fun e w' => ∃ v0_ : Value, e = .returned (v0_) ∧ Kd.N k25 25 w' w.heap.size (fun k_ => (P0_ k_ ∨ w.heap.size ≤ k_)) v0_ r ∧ Below w.heap.size w w' := by
 have HO0 := aS (show Kd.V k25 25 w w.heap.size (fun k_ => (P0_ k_ ∨ w.heap.size ≤ k_)) (.slice A0 l0.length c0) l0 from Kd.V_mono hs0 (fun k_ hk => .inl hk))
 have HB := aS (Below.refl w.heap.size w)
 have H : ((api_HItem_49.f l0).bind fun t104 => (active_own.l0 k t104 (t104.length : Int) 0)) = some r := h
 clear h
 replace H := Option.bind_eq_some_iff.mp H
 obtain ⟨t104, A20, H⟩ := H
 replace H : (active_own.l0 k t104 (t104.length : Int) 0) = some r := H
 have A2 := aS A20
 clear A20
 have H' := aS H
 clear H
 go_enter Try.func48, Try.ntmps48
 go_wp2_with (first | ((with_reducible refine gate_callee (f := 49) rfl ?_); refine goesL_ (some 6) rfl rfl Try.func49 (by kernel_rfl) rfl #[.slice A0 l0.length c0] rfl (by (try simp only [List.map_toArray, List.map_cons, List.map_nil]); first | done | rfl | (simp only [List.length_drop, List.length_take]; rfl)) ?_; (with_reducible refine (api_HItem_49.calls (fun k_ => (P0_ k_ ∨ w.heap.size ≤ k_)) _ _ l0 t104 _ ?side1 A2.out).mono ?_); (case side1 => exact HO0.out); rintro e w3 ⟨v105, rfl, ho0, hb⟩; refine ⟨_, rfl, ?_⟩; have n0_ := aS (Kd.V_elder' (by (with_reducible repeat (first | apply vA | apply vN | apply vD)); exact HO0.out) (Kd.N_base ho0) hb); have n1_ := aS (Kd.N_lower (Kd.N_mono (ok' := fun k_ => (P0_ k_ ∨ w.heap.size ≤ k_)) ho0 (fun k_ hk_ => Or.elim hk_ (fun hs_ => hs_) (fun hn_ => (.inr (Nat.le_trans (below_size (by repeat (first | (with_reducible first | exact HB.out | apply bA | apply bN | apply bD) | exact HB.out))) hn_))))) (below_size (by repeat (first | (with_reducible first | exact HB.out | apply bA | apply bN | apply bD) | exact HB.out)))); have n2_ := aS (below_step (by repeat (first | (with_reducible first | exact HB.out | apply bA | apply bN | apply bD) | exact HB.out)) hb); clear HO0; clear HB; have HO0 := n0_; have HO106 := n1_; have HB := n2_; clear n0_ n1_ n2_; (try clear hb); (try clear hb2); (try clear hk); (try clear hi); (try clear ho0); obtain ⟨Ao4, co4, eo4⟩ := Kd.N_slice HO106.out; subst eo4))
 go_loopg [9] k (fun kq v9 w' => ∃ (x3_1 : List (S25)) (x9_1 : Int), v9 = .int .i64 x9_1 ∧ Aside0 (active_own.l0 kq x3_1 (t104.length : Int) x9_1 = some r) ∧ Aside0 (kq ≤ k) ∧ Aside0 (Kd.N k25 25 w' w.heap.size (fun k_ => (P0_ k_ ∨ w.heap.size ≤ k_)) (.slice Ao4 t104.length co4) x3_1) ∧ Aside0 (Below w.heap.size w w'))
 case atStart => exact ⟨(t104), (0), (by first | rfl | (simp; done) | simp [*]), H', ⟨Nat.le_refl _⟩, ⟨by (with_reducible repeat (first | apply nA | apply nN | apply nD)); exact HO106.out⟩, ⟨by repeat (first | (with_reducible first | exact HB.out | apply bA | apply bN | apply bD) | exact HB.out)⟩⟩
 case round =>
  clear H'
  try clear p2
  try clear c4
  obtain ⟨x3_1, x9_1, rfl, HA, HK1, HO_3, HB⟩ := hrel
  have hl3_1 := (Kd.N_reads' HO_3.out).1
  rw [hl3_1] at HO_3
  (try simp only [hl3_1])
  cases gk with
  | zero => exact absurd HA.out (by simp [active_own.l0])
  | succ k1 =>
   have H := HA.out
   clear HA
   simp only [active_own.l0] at H
   by_cases c5 : x9_1 < (t104.length : Int)
   ·rw [if_pos c5] at H
    have c5b0 : decide (x9_1 < (t104.length : Int)) = true := decide_eq_true c5
    clear c5
    by_cases c6 : 0 ≤ x9_1
    ·rw [if_pos c6] at H
     have c6b0 : decide (0 ≤ x9_1) = true := decide_eq_true c6
     clear c6
     by_cases c7 : x9_1 < (x3_1.length : Int)
     ·rw [if_pos c7] at H
      have c7b0 : decide (x9_1 < (x3_1.length : Int)) = true := decide_eq_true c7
      clear c7
      replace H := Option.bind_eq_some_iff.mp H
      obtain ⟨t108, A80, H⟩ := H
      replace H : (active_own.l0 k1 (x3_1.set (x9_1 : Int).toNat (⟨(rd_T25 x3_1 x9_1).f0, (rd_T25 x3_1 x9_1).f1, t108⟩ : S25)) (t104.length : Int) (wrap64 (x9_1 + 1))) = some r := H
      have A8 := aS A80
      clear A80
      obtain ⟨y111, hy111⟩ : ∃ y_ : List (S25), y_ = (x3_1.set (x9_1 : Int).toNat (⟨(rd_T25 x3_1 x9_1).f0, (rd_T25 x3_1 x9_1).f1, t108⟩ : S25)) := ⟨_, rfl⟩
      replace H : (active_own.l0 k1 y111 (t104.length : Int) (wrap64 (x9_1 + 1))) = some r := by first | (rw [hy111]; with_reducible exact H) | (have H2_ := (Option.bind_some _ _).symm.trans H; rw [hy111]; with_reducible exact H2_) | (have H2_ := (Option.bind_some _ _).symm.trans H; with_reducible exact H2_) | with_reducible exact H | (rw [hy111]; exact H) | exact H
      have Ny111 := aS hy111
      clear hy111
      have H' := aS H
      clear H
      have p107 : 0 ≤ (x9_1 : Int) := od (by first | (with_reducible assumption) | assumption)
      have q107 : x9_1 < (x3_1.length : Int) := od (by first | (with_reducible assumption) | assumption)
      obtain ⟨ad107, A107_2, c107_2, e107, hx107_0, hx107_1, hx107_2, hl107_2, hi107_2⟩ := at_T25 (Kd.N_reads' HO_3.out).2.2 x9_1 p107 q107
      cases e107
      obtain ⟨ce107, hce107, hMe107, hcc107⟩ := Kd.N_get HO_3.out z25 x9_1 p107 (by first | exact q107 | exact od (by first | (with_reducible assumption) | assumption) | (have e_ := (Kd.N_reads' HO_3.out).1; omega))
      obtain ⟨ua107_2, uc107_2, rfl, ul107_2, ge107_2⟩ := k25_openF hMe107
      have hv107_2 := hcc107 2 _ rfl
      rw [add_field _ _ 2 (by omega)] at hv107_2
      replace hv107_2 := Option.some.inj (hv107_2.symm.trans hx107_2)
      injection hv107_2 with hva_ hvn_ hvc_
      rw [hva_] at ge107_2
      rw [hvc_] at ul107_2
      have HL107_2 := aS (show Kd.V k99 99 _ w.heap.size _ _ ((rd_T25 x3_1 x9_1).f2) from Kd.V_mk ul107_2 ge107_2)
      clear hva_ hvn_ hvc_ ge107_2 ul107_2
      clear hcc107 hce107
      have HR107_2 := aS hi107_2
      have HC107_2 := aS hl107_2
      clear hi107_2 hl107_2
      replace p107 := eq_true p107
      replace q107 := eq_true q107
      go_wp2_with (first | ((with_reducible refine gate_callee (f := 85) rfl ?_); refine goesL_ (some 19) rfl rfl Try.func85 (by kernel_rfl) rfl #[.slice A107_2 ((rd_T25 x3_1 x9_1).f2).length c107_2] rfl (by (try simp only [List.map_toArray, List.map_cons, List.map_nil]); first | done | rfl | (simp only [List.length_drop, List.length_take]; rfl)) ?_; (with_reducible refine (api_Attr_85.calls _ _ ((rd_T25 x3_1 x9_1).f2) t108 _ ?side1 ?side2 A8.out).mono ?_); (case side1 => repeat (first | exact (by repeat (first | (with_reducible exact HR107_2.out) | (with_reducible refine cA ?_ _) | (with_reducible refine cN ?_ _) | (with_reducible refine cD ?_) | exact HR107_2.out)) | (with_reducible refine cA ?_ _) | (with_reducible refine cN ?_ _) | (with_reducible refine cD ?_))); (case side2 => exact HC107_2.out); rintro e w10 ⟨v109, rfl, ho0, hb⟩; obtain ⟨vA109, vc109, rfl⟩ := Kd.R_slice ho0; refine ⟨_, rfl, ?_⟩; have n0_ := aS (Kd.N_elder' (by (with_reducible repeat (first | apply nA | apply nN | apply nD)); exact HO_3.out) (Kd.R_base ho0) hb); have n1_ := aS (Kd.V_elder' (by (with_reducible repeat (first | apply vA | apply vN | apply vD)); exact HL107_2.out) (Kd.R_base ho0) hb); have n2_ := aS (Kd.R_lower (Kd.R_newM (M := fun k_ => (w.heap.size ≤ k_)) ho0 (below_size (by repeat (first | (with_reducible first | exact HB.out | apply bA | apply bN | apply bD) | exact HB.out))) (fun k_ h_ => h_)) (below_size (by repeat (first | (with_reducible first | exact HB.out | apply bA | apply bN | apply bD) | exact HB.out)))); have n3_ := aS (Kd.C_below (by repeat (first | (with_reducible exact HR107_2.out) | (with_reducible refine cA ?_ _) | (with_reducible refine cN ?_ _) | (with_reducible refine cD ?_) | exact HR107_2.out)) hb); have n4_ := aS (below_step (by repeat (first | (with_reducible first | exact HB.out | apply bA | apply bN | apply bD) | exact HB.out)) hb); clear HO_3; clear HL107_2; clear HR107_2; clear HB; have HO_3 := n0_; have HL107_2 := n1_; have HO110 := n2_; have HR107_2 := n3_; have HB := n4_; clear n0_ n1_ n2_ n3_ n4_; (try clear hb); (try clear hb2); (try clear hk); (try clear hi); (try clear ho0); have p9 : 0 ≤ (x9_1 : Int) := od (by first | (with_reducible assumption) | assumption); have q9 : (x9_1 : Int) < ((x3_1.length : Int) : Int) := od (by first | (with_reducible assumption) | assumption); obtain ⟨go9, co9, eo9, gb9, gl9, cl9, HG9⟩ := Kd.N_form HO_3.out (by omega); (first | cases eo9 | (injection eo9 with ea_ en_ ec_; (first | subst ea_ | (injection ea_ with ea_; subst ea_)); subst ec_; clear en_)); have GB9 := aS gb9; have GG9 := aS HG9; clear gb9 gl9 HG9; (first | simp only [add_plain] at hx107_0 | skip); (first | simp only [add_plain] at hx107_1 | skip); (first | simp only [add_plain] at hx107_2 | skip); obtain ⟨ce9, hcl9, hM9, hcc9, hfr9⟩ := Kd.N_elem HO_3.out z25 (x9_1 : Int) p9 q9; obtain ⟨ua9_2, uc9_2, rfl, ul9_2, ge9_2⟩ := k25_openF hM9; have hx9_0 : w10.cell? ⟨go9, (x9_1 : Int).toNat * 3, none⟩ = some (.int .i64 ((rd_T25 x3_1 x9_1).f0)) := hcc9 0 _ rfl; have hx9_1 : w10.cell? ⟨go9, (x9_1 : Int).toNat * 3 + 1, none⟩ = some (.string ((rd_T25 x3_1 x9_1).f1)) := hcc9 1 _ rfl; have hx9_2 : w10.cell? ⟨go9, (x9_1 : Int).toNat * 3 + 2, none⟩ = some (.slice ua9_2 ((rd_T25 x3_1 x9_1).f2).length uc9_2) := hcc9 2 _ rfl; have hf9_0 : w10.frozen? ⟨go9, (x9_1 : Int).toNat * 3, none⟩ = false := hfr9 0; have hf9_1 : w10.frozen? ⟨go9, (x9_1 : Int).toNat * 3 + 1, none⟩ = false := hfr9 1; have hf9_2 : w10.frozen? ⟨go9, (x9_1 : Int).toNat * 3 + 2, none⟩ = false := hfr9 2; clear hcl9 hcc9 hfr9 hM9; replace p9 := eq_true p9; replace q9 := eq_true q9; have HX11 := aS (show Kd.N k25 25 w10 w.heap.size (fun k_ => (P0_ k_ ∨ w.heap.size ≤ k_)) (.slice (some ⟨go9, 0, none⟩) x3_1.length co4) x3_1 from (by (with_reducible repeat (first | apply nA | apply nN | apply nD)); exact Kd.N_mono HO_3.out (fun _ hk => hk.1))); obtain ⟨ce11, hcl11, hM11, hcc11, hfr11⟩ := Kd.N_elem HX11.out z25 (x9_1 : Int) (od (by first | (with_reducible assumption) | assumption)) (by have h_ : (x9_1 : Int) < ((x3_1.length : Int) : Int) := od (by first | (with_reducible assumption) | assumption); first | exact h_ | (have e_ := (Kd.N_reads' HO_3.out).1; omega) | simpa using h_); obtain ⟨ua11_2, uc11_2, rfl, ul11_2, ge11_2⟩ := k25_openF hM11; have HP11 := Kd.N_seg HX11.out (x9_1 : Int) (od (by first | (with_reducible assumption) | assumption)) (by have h_ : (x9_1 : Int) < ((x3_1.length : Int) : Int) := od (by first | (with_reducible assumption) | assumption); first | exact h_ | (have e_ := (Kd.N_reads' HO_3.out).1; omega) | simpa using h_) (seg := [(Value.slice vA109 t108.length vc109)]) (j := 2) hcl11 hcc11 (show 3 ≤ 3 from by decide) (x' := (⟨(rd_T25 x3_1 x9_1).f0, (rd_T25 x3_1 x9_1).f1, t108⟩ : S25)) (k25_mkFV _ _ (⟨(rd_T25 x3_1 x9_1).f0, (rd_T25 x3_1 x9_1).f1, t108⟩ : S25) (Kd.R_V (base' := 0) (Kd.R_mono (ok' := (fun k_ => ((fun k_ => (P0_ k_ ∨ w.heap.size ≤ k_))) k_ ∧ k_ ≠ go9)) (Kd.R_apart' (HO110.out) (Kd.N_typed HO_3.out) (by decide)) (fun k_ hk => ⟨(.inr (hk.1.1)), fun e_ => (hk.2) (by rw [e_]; rfl)⟩)))) (fun _ hk => hk); have hx11_2 := hcc11 2 _ rfl; (try simp only [show (k25).sz = 3 from rfl, Nat.mul_one, Nat.add_zero] at hx11_2); have hf11_2 := hfr11 2; (try simp only [show (k25).sz = 3 from rfl, Nat.mul_one, Nat.add_zero] at hf11_2); clear hcl11 hcc11 hfr11 hM11) | ((with_reducible refine gate_store (t := 23) (p := 21) rfl ?_); refine store_event (t := 23) (p := 21) (v := ?vo_w12) (w1 := (w10.setCell ⟨go9, (x9_1 : Int).toNat * 3 + 2, none⟩ ((Value.slice vA109 t108.length vc109)))) ?hg ?ho ?hn ?hr ?_; (case ho => rfl); (case hg => rfl); (case hn => rfl); (case hr => first | (go_simp; done) | (go_simp; rfl)); intro w12 hw; have hg : w10.grownBy w12 (some go9) := (by rw [hw]; exact HP11.2); have hp_ : Kd.N k25 25 w12 w.heap.size (fun k_ => (P0_ k_ ∨ w.heap.size ≤ k_)) (.slice (some ⟨go9, 0, none⟩) x3_1.length co4) y111 := (by rw [hw, Ny111.out]; exact HP11.1); clear HP11; have n0_ := aS (hp_); have n1_ := aS (Kd.V_afterv (v := (.slice (some ⟨go9, 0, none⟩) x3_1.length co4)) (v1 := (.slice (some ⟨go9, 0, none⟩) x3_1.length co4)) (ok := (fun k_ => (P0_ k_ ∨ w.heap.size ≤ k_) ∧ some k_ ≠ ((Value.slice vA109 t108.length vc109) : Value).ownBlock)) (by (with_reducible repeat (first | apply vA | apply vN | apply vD)); exact Kd.V_mono HL107_2.out (fun _ hk => ⟨⟨hk.1.1, hk.2⟩, hk.1.2⟩)) hg (.inl rfl)); have n2_ := aS ((by rw [hw]; exact below_set (HB.out) GB9.out : Below w.heap.size w w12)); clear HO_3; clear HL107_2; clear HB; clear HO110; have HO_3 := n0_; have HL107_2 := n1_; have HB := n2_; clear n0_ n1_ n2_; clear hg hw hp_))
      (try simp only [← hl3_1])
      go_roundg k1
      case measure => have := HK1.out; omega
      case rel => exact ⟨(y111), (wrap64 (x9_1 + 1)), (by first | rfl | (simp; done) | simp [*]), H', ⟨by have := HK1.out; omega⟩, ⟨by (try simp only [hl3_1]); (with_reducible repeat (first | apply nA | apply nN | apply nD)); exact HO_3.out⟩, ⟨by repeat (first | (with_reducible first | exact HB.out | apply bA | apply bN | apply bD) | exact HB.out)⟩⟩
     ·rw [if_neg c7] at H
      exact absurd H (by simp)
    ·rw [if_neg c6] at H
     exact absurd H (by simp)
   ·rw [if_neg c5] at H
    have c5b0 : decide (x9_1 < (t104.length : Int)) = false := decide_eq_false c5
    (try simp only [hl3_1] at c5b0)
    clear c5
    obtain rfl := Option.some.inj H
    go_wp2
    go_ret
    exact ⟨_, by first | rfl | (simp [errW_none, errW_some] <;> rfl) | (simp [*, errW_none, errW_some] <;> rfl), by (with_reducible repeat (first | apply nA | apply nN | apply nD)); exact HO_3.out, by repeat (first | (with_reducible first | exact HB.out | apply bA | apply bN | apply bD) | exact HB.out)⟩

/-! ### active_Last: function 86 -/
def active_Last.l0 : Nat → List (S25) → Int → Option (Int)
 | 0, _, _ => none
 | k + 1, x0, x3 => if x3 > 0 then (if 0 ≤ (wrap64 (x3 - 1)) then (if (wrap64 (x3 - 1)) < (x0.length : Int) then ((active_Marker.f ((rd_T25 x0 (wrap64 (x3 - 1))).f0) ((rd_T25 x0 (wrap64 (x3 - 1))).f1) ((rd_T25 x0 (wrap64 (x3 - 1))).f2)).bind fun t113 => (if t113 = true then (some x3) else (active_Last.l0 k x0 (wrap64 (x3 - 1))))) else (none)) else (none)) else (some 0)
def active_Last.f (k : Nat) (l0 : List (S25)) : Option (Int) := active_Last.l0 k l0 (l0.length : Int)
theorem active_Last.mono_l : ∀ k, (∀ y0 y1, LeO (active_Last.l0 k y0 y1) (active_Last.l0 (k + 1) y0 y1))
 | 0 => fun _ _ r h => by simp [active_Last.l0] at h
 | k + 1 => by
  have ih0 := active_Last.mono_l k
  ·intro y0 y1
   unfold active_Last.l0
   repeat' first
   | (with_reducible exact ih0 _ _)
   | (with_reducible exact LeO.refl _)
   | (with_reducible exact LeO.none _)
   | (with_reducible refine LeO.ite ?_ ?_)
   | (with_reducible refine LeO.bind ?_ (fun _ => ?_))
   | exact ih0 _ _
   | exact LeO.none _
   | refine LeO.ite ?_ ?_
   | refine LeO.bind ?_ (fun _ => ?_)
theorem active_Last.mono : ∀ a0 k, LeO (active_Last.f k a0) (active_Last.f (k + 1) a0) := by
 intro a0 k
 have ih0 := active_Last.mono_l k
 unfold active_Last.f
 repeat' first
  | (with_reducible exact ih0 _ _)
  | (with_reducible exact LeO.refl _)
  | (with_reducible exact LeO.none _)
  | (with_reducible refine LeO.ite ?_ ?_)
  | (with_reducible refine LeO.bind ?_ (fun _ => ?_))
  | exact ih0 _ _
  | exact LeO.none _
  | refine LeO.ite ?_ ?_
  | refine LeO.bind ?_ (fun _ => ?_)
set_option maxHeartbeats 8000000 in
set_option maxRecDepth 100000 in
theorem active_Last.calls (k : Nat) (A0 : Option Addr) (c0 : Nat) (l0 : List (S25)) (r : Int) (w : World) (hr0 : Kd.C k25 w A0 l0.length l0) (hc0 : l0.length ≤ c0) (h : active_Last.f k l0 = some r) :
 Calls Try.prog 86 #[.slice A0 l0.length c0] w fun e w' => e = .returned (.int .i64 r) ∧ Below w.heap.size w w' := by
 have hu25 := Try.underlying25
 have HR0 := aS hr0
 have HC0 := aS hc0
 clear hr0 hc0
 have HB := aS (Below.refl w.heap.size w)
 have H : (active_Last.l0 k l0 (l0.length : Int)) = some r := h
 clear h
 have H' := aS H
 clear H
 go_enter Try.func86, Try.ntmps86
 go_wp2
 go_loopg [3] k (fun kq v3 w' => ∃ (x3_1 : Int), v3 = .int .i64 x3_1 ∧ Aside0 (active_Last.l0 kq l0 x3_1 = some r) ∧ Aside0 (kq ≤ k) ∧ Aside0 (Below w.heap.size w w'))
 case atStart => exact ⟨((l0.length : Int)), (by first | rfl | (simp; done) | simp [*]), H', ⟨Nat.le_refl _⟩, ⟨by repeat (first | (with_reducible first | exact HB.out | apply bA | apply bN | apply bD) | exact HB.out)⟩⟩
 case round =>
  clear H'
  obtain ⟨x3_1, rfl, HA, HK1, HB⟩ := hrel
  cases gk with
  | zero => exact absurd HA.out (by simp [active_Last.l0])
  | succ k1 =>
   have H := HA.out
   clear HA
   simp only [active_Last.l0] at H
   by_cases c2 : x3_1 > 0
   ·rw [if_pos c2] at H
    have c2b0 : decide (0 < x3_1) = true := decide_eq_true c2
    clear c2
    obtain ⟨ji3, hji3⟩ : ∃ j_ : Int, (wrap64 (x3_1 - 1)) = j_ := ⟨_, rfl⟩
    replace H : (if 0 ≤ (ji3) then (if (ji3) < (l0.length : Int) then ((active_Marker.f ((rd_T25 l0 (ji3)).f0) ((rd_T25 l0 (ji3)).f1) ((rd_T25 l0 (ji3)).f2)).bind fun t113 => (if t113 = true then (some x3_1) else (active_Last.l0 k1 l0 ji3))) else (none)) else (none)) = some r := by first | (rw [hji3] at H; exact H) | (simp only [hji3] at H ⊢; exact H)
    have hji3w : (IntKind.i64.wrap (x3_1 - 1)) = ji3 := (i64_w _).trans hji3
    by_cases c4 : 0 ≤ (ji3)
    ·rw [if_pos c4] at H
     have c4b0 : decide (0 ≤ (ji3)) = true := decide_eq_true c4
     clear c4
     by_cases c5 : (ji3) < (l0.length : Int)
     ·rw [if_pos c5] at H
      have c5b0 : decide ((ji3) < (l0.length : Int)) = true := decide_eq_true c5
      clear c5
      replace H := Option.bind_eq_some_iff.mp H
      obtain ⟨t113, A60, H⟩ := H
      replace H : (if t113 = true then (some x3_1) else (active_Last.l0 k1 l0 ji3)) = some r := H
      have A6 := aS A60
      clear A60
      by_cases c7 : t113 = true
      ·subst c7
       have H1 : (some x3_1) = some r := by rw [if_pos rfl] at H; exact H
       clear H
       have H := H1
       clear H1
       obtain rfl := Option.some.inj H
       have p112 : 0 ≤ ((ji3) : Int) := od (by first | (with_reducible assumption) | assumption)
       have q112 : (ji3) < (l0.length : Int) := od (by first | (with_reducible assumption) | assumption)
       obtain ⟨ad112, A112_2, c112_2, e112, hx112_0, hx112_1, hx112_2, hl112_2, hi112_2⟩ := at_T25 HR0.out (ji3) p112 q112
       cases e112
       replace hx112_0 := (HB.out.cell (World.block_lt_of_cell? w _ hx112_0)).trans hx112_0
       replace hx112_1 := (HB.out.cell (World.block_lt_of_cell? w _ hx112_1)).trans hx112_1
       replace hx112_2 := (HB.out.cell (World.block_lt_of_cell? w _ hx112_2)).trans hx112_2
       have HR112_2 := aS hi112_2
       have HC112_2 := aS hl112_2
       clear hi112_2 hl112_2
       replace p112 := eq_true p112
       replace q112 := eq_true q112
       go_wp2_with (first | ((with_reducible refine gate_callee (f := 56) rfl ?_); refine goesL_ (some 15) rfl rfl Try.func56 (by kernel_rfl) rfl #[.agg #[.int .i64 ((rd_T25 l0 (ji3)).f0), .string ((rd_T25 l0 (ji3)).f1), .slice A112_2 ((rd_T25 l0 (ji3)).f2).length c112_2]] rfl (by (try simp only [List.map_toArray, List.map_cons, List.map_nil]); first | done | (simp only [hji3]; rfl) | rfl | (simp only [List.length_drop, List.length_take]; rfl)) ?_; (with_reducible refine (active_Marker.calls ((rd_T25 l0 (ji3)).f0) ((rd_T25 l0 (ji3)).f1) _ _ ((rd_T25 l0 (ji3)).f2) true _ ?side1 ?side2 A6.out).mono ?_); (case side1 => repeat (first | exact (Kd.C_below HR112_2.out HB.out) | (with_reducible refine cA ?_ _) | (with_reducible refine cN ?_ _) | (with_reducible refine cD ?_))); (case side2 => exact HC112_2.out); rintro e w8 ⟨rfl, hb⟩; refine ⟨_, rfl, ?_⟩; have n0_ := aS (below_step (by repeat (first | (with_reducible first | exact HB.out | apply bA | apply bN | apply bD) | exact HB.out)) hb); clear HB; have HB := n0_; clear n0_; (try clear hb); (try clear hb2); (try clear hk); (try clear hi)))
       go_ret
       exact ⟨by first | rfl | (simp [errW_none, errW_some] <;> rfl) | (simp only [← hji3]; first | rfl | (simp [errW_none, errW_some] <;> rfl)) | (simp [*, errW_none, errW_some] <;> rfl), by repeat (first | (with_reducible first | exact HB.out | apply bA | apply bN | apply bD) | exact HB.out)⟩
      ·replace c7 := Bool.eq_false_iff.mpr c7
       subst c7
       have H1 : (active_Last.l0 k1 l0 ji3) = some r := by rw [if_neg (show ¬ (false = true) by decide)] at H; exact H
       clear H
       have H := H1
       clear H1
       have H' := aS H
       clear H
       have p112 : 0 ≤ ((ji3) : Int) := od (by first | (with_reducible assumption) | assumption)
       have q112 : (ji3) < (l0.length : Int) := od (by first | (with_reducible assumption) | assumption)
       obtain ⟨ad112, A112_2, c112_2, e112, hx112_0, hx112_1, hx112_2, hl112_2, hi112_2⟩ := at_T25 HR0.out (ji3) p112 q112
       cases e112
       replace hx112_0 := (HB.out.cell (World.block_lt_of_cell? w _ hx112_0)).trans hx112_0
       replace hx112_1 := (HB.out.cell (World.block_lt_of_cell? w _ hx112_1)).trans hx112_1
       replace hx112_2 := (HB.out.cell (World.block_lt_of_cell? w _ hx112_2)).trans hx112_2
       have HR112_2 := aS hi112_2
       have HC112_2 := aS hl112_2
       clear hi112_2 hl112_2
       replace p112 := eq_true p112
       replace q112 := eq_true q112
       go_wp2_with (first | ((with_reducible refine gate_callee (f := 56) rfl ?_); refine goesL_ (some 15) rfl rfl Try.func56 (by kernel_rfl) rfl #[.agg #[.int .i64 ((rd_T25 l0 (ji3)).f0), .string ((rd_T25 l0 (ji3)).f1), .slice A112_2 ((rd_T25 l0 (ji3)).f2).length c112_2]] rfl (by (try simp only [List.map_toArray, List.map_cons, List.map_nil]); first | done | (simp only [hji3]; rfl) | rfl | (simp only [List.length_drop, List.length_take]; rfl)) ?_; (with_reducible refine (active_Marker.calls ((rd_T25 l0 (ji3)).f0) ((rd_T25 l0 (ji3)).f1) _ _ ((rd_T25 l0 (ji3)).f2) false _ ?side1 ?side2 A6.out).mono ?_); (case side1 => repeat (first | exact (Kd.C_below HR112_2.out HB.out) | (with_reducible refine cA ?_ _) | (with_reducible refine cN ?_ _) | (with_reducible refine cD ?_))); (case side2 => exact HC112_2.out); rintro e w9 ⟨rfl, hb⟩; refine ⟨_, rfl, ?_⟩; have n0_ := aS (below_step (by repeat (first | (with_reducible first | exact HB.out | apply bA | apply bN | apply bD) | exact HB.out)) hb); clear HB; have HB := n0_; clear n0_; (try clear hb); (try clear hb2); (try clear hk); (try clear hi)))
       go_roundg k1
       case measure => have := HK1.out; omega
       case rel => exact ⟨(ji3), (by first | rfl | (simp; done) | (simp only [← hji3] <;> (first | rfl | simp)) | (simp [*]; done)), H', ⟨by have := HK1.out; omega⟩, ⟨by repeat (first | (with_reducible first | exact HB.out | apply bA | apply bN | apply bD) | exact HB.out)⟩⟩
     ·rw [if_neg c5] at H
      exact absurd H (by simp)
    ·rw [if_neg c4] at H
     exact absurd H (by simp)
   ·rw [if_neg c2] at H
    have c2b0 : decide (0 < x3_1) = false := decide_eq_false c2
    clear c2
    obtain rfl := Option.some.inj H
    go_wp2
    go_ret
    exact ⟨by first | rfl | (simp [errW_none, errW_some] <;> rfl) | (simp [*, errW_none, errW_some] <;> rfl), by repeat (first | (with_reducible first | exact HB.out | apply bA | apply bN | apply bD) | exact HB.out)⟩

/-! ### api_Attr_122: function 122, given -/
set_option maxHeartbeats 2000000 in
theorem api_Attr_122.idx (A0 : Option Addr) (c0 : Nat) (l0 : List S99) (p : S99 → Bool) (g : Nat) (lb : Array Value) (eg : ∀ args w, (callFunc g args).run Try.prog w = .ok (.enter g args) w) (w : World) (hr0 : Kd.C k99 w A0 l0.length l0) (hn : l0.length ≤ 9223372036854775807)
 (hp : ∀ W x cs, x ∈ l0 → Below w.heap.size w W → (k99).K W x cs → Calls Try.prog g (#[.agg cs.toArray] ++ lb) W fun e w' => e = .returned (.bool (p x)) ∧ Below W.heap.size W w') :
 Calls Try.prog 122 #[.slice A0 l0.length c0, .func (.func g) #[] lb] w fun e w' => e = .returned (.int .i64 (Cl.idxOf p l0)) ∧ Below w.heap.size w w' := by
 have hC := aS hr0
 have HP := aS hp
 have HN := aS hn
 clear hr0 hp
 go_enter Try.func122, Try.ntmps122
 go_wp2
 go_loopg [5, 8] l0.length (fun gg _ s8 wr => ∃ kk : Nat, kk ≤ l0.length ∧ l0.length - kk ≤ gg ∧ s8 = .int .i64 kk ∧ Aside0 (Below w.heap.size w wr) ∧ Aside0 (∀ j, j < kk → p (l0.getD j z99) = false))
 case atStart => exact ⟨0, Nat.zero_le _, by omega, rfl, ⟨Below.refl _ w⟩, ⟨fun j hj => absurd hj (Nat.not_lt_zero _)⟩⟩
 case round =>
  obtain ⟨kk, hkk, hg, rfl, BW, HA⟩ := hrel
  by_cases hlt : kk < l0.length
  ·have hltz : (kk : Int) < (l0.length : Int) := by omega
   obtain ⟨ad, cs, rfl, hcl, hK, hcc⟩ := Cl.getC (Kd.C_below hC.out BW.out) z99 kk hlt
   have hcall := HP.out wr (l0.getD kk z99) cs (Cl.mem_getD l0 kk z99 hlt) BW.out hK
   have hcl' : cs.length = 2 := hcl
   have hcc' : ∀ j u, cs[j]? = some u → wr.cell? (ad.add (kk * 2 + j)) = some u := hcc
   obtain ⟨u0_, u1_, rfl⟩ : ∃ u0_ u1_, cs = [u0_, u1_] := by
    match cs, hcl' with
    | [u0_, u1_], _ => exact ⟨u0_, u1_, rfl⟩
   have hz0 : wr.cell? (ad.add (kk * 2)) = some u0_ := hcc' 0 _ rfl
   have hz1 : wr.cell? ⟨(ad.add (kk * 2)).block, (ad.add (kk * 2)).off + 1, none⟩ = some u1_ := by rw [← add_field _ _ 1 (by omega)]; exact hcc' 1 _ rfl
   replace hcall : Calls Try.prog g (#[.agg #[u0_, u1_]] ++ lb) wr _ := hcall
   clear hcl hcc hK hcc'
   obtain ⟨x, hx⟩ : ∃ x, l0.getD kk z99 = x := ⟨_, rfl⟩
   rw [hx] at hcall
   have HX := aS hx
   clear hx
   cases hq : p x with
   | true =>
    rw [hq] at hcall
    have HQ := aS hq
    clear hq
    go_wp2_with (go_at_fn g; refine hcall.mono ?_; rintro e w' ⟨rfl, hb'⟩)
    go_ret
    refine ⟨?_, BW.out.trans (hb'.mono BW.out.size)⟩
    rw [Cl.idxOf_hit p z99 l0 kk hlt (by rw [HX.out]; exact HQ.out) HA.out]
    rfl
   | false =>
    rw [hq] at hcall
    have HQ := aS hq
    clear hq
    go_wp2_with (go_at_fn g; refine hcall.mono ?_; rintro e w' ⟨rfl, hb'⟩)
    go_roundg (l0.length - (kk + 1))
    case measure => omega
    case rel =>
     refine ⟨kk + 1, by omega, by omega, by go_num, ⟨BW.out.trans (hb'.mono BW.out.size)⟩, ⟨fun j hj => ?_⟩⟩
     by_cases e : j = kk
     ·subst e
      rw [HX.out]; exact HQ.out
     ·exact HA.out j (by omega)
  ·have hltz : ¬ (kk : Int) < (l0.length : Int) := by omega
   have : kk = l0.length := by omega
   subst this
   go_wp2
   go_ret
   refine ⟨?_, BW.out⟩
   rw [Cl.idxOf_miss p z99 l0 HA.out]
   rfl


/-! ### api_Attr_118: function 118, given -/
set_option maxHeartbeats 1000000 in
theorem api_Attr_118.has (A0 : Option Addr) (c0 : Nat) (l0 : List S99) (p : S99 → Bool) (g : Nat) (lb : Array Value) (eg : ∀ args w, (callFunc g args).run Try.prog w = .ok (.enter g args) w) (w : World) (hr0 : Kd.C k99 w A0 l0.length l0) (hn : l0.length ≤ 9223372036854775807)
 (hp : ∀ W x cs, x ∈ l0 → Below w.heap.size w W → (k99).K W x cs → Calls Try.prog g (#[.agg cs.toArray] ++ lb) W fun e w' => e = .returned (.bool (p x)) ∧ Below W.heap.size W w') :
 Calls Try.prog 118 #[.slice A0 l0.length c0, .func (.func g) #[] lb] w fun e w' => e = .returned (.bool (l0.any p)) ∧ Below w.heap.size w w' := by
 have hI := api_Attr_122.idx A0 c0 l0 p g lb eg w hr0 hn hp
 rw [← Cl.idxOf_any p l0]
 obtain ⟨q, hq⟩ : ∃ q, Cl.idxOf p l0 = q := ⟨_, rfl⟩
 rw [hq] at hI ⊢
 clear hq hr0 hp
 go_enter Try.func118, Try.ntmps118
 go_wp2_with (go_at_call 122; refine hI.mono ?_; rintro e w' ⟨rfl, hb'⟩)
 go_ret
 exact ⟨rfl, hb'⟩


/-! ### api_Attr_123: function 123 -/
def api_Attr_123.l0 : Nat → List (S99) → Int → Int → ByteArray → ByteArray → Option (Int)
 | 0, _, _, _, _, _ => none
 | k + 1, x0, x7, x8, x115000, x115001 => if x8 < x7 then (if 0 ≤ x8 then (if x8 < (x0.length : Int) then (if (x115000.toList == (((rd_T99 x0 x8).f0).toList) && (x115001.toList == (((rd_T99 x0 x8).f1).toList))) = true then (some x8) else (api_Attr_123.l0 k x0 x7 (wrap64 (x8 + 1)) x115000 x115001)) else (none)) else (none)) else (some (-1))
def api_Attr_123.f (k : Nat) (l0 : List (S99)) (a1_0 : ByteArray) (a1_1 : ByteArray) : Option (Int) := api_Attr_123.l0 k l0 (l0.length : Int) 0 a1_0 a1_1
theorem api_Attr_123.mono_l : ∀ k, (∀ y0 y1 y2 y3 y4, LeO (api_Attr_123.l0 k y0 y1 y2 y3 y4) (api_Attr_123.l0 (k + 1) y0 y1 y2 y3 y4))
 | 0 => fun _ _ _ _ _ r h => by simp [api_Attr_123.l0] at h
 | k + 1 => by
  have ih0 := api_Attr_123.mono_l k
  ·intro y0 y1 y2 y3 y4
   unfold api_Attr_123.l0
   repeat' first
   | (with_reducible exact ih0 _ _ _ _ _)
   | (with_reducible exact LeO.refl _)
   | (with_reducible exact LeO.none _)
   | (with_reducible refine LeO.ite ?_ ?_)
   | (with_reducible refine LeO.bind ?_ (fun _ => ?_))
   | exact ih0 _ _ _ _ _
   | exact LeO.none _
   | refine LeO.ite ?_ ?_
   | refine LeO.bind ?_ (fun _ => ?_)
theorem api_Attr_123.mono : ∀ a0 a1 a2 k, LeO (api_Attr_123.f k a0 a1 a2) (api_Attr_123.f (k + 1) a0 a1 a2) := by
 intro a0 a1 a2 k
 have ih0 := api_Attr_123.mono_l k
 unfold api_Attr_123.f
 repeat' first
  | (with_reducible exact ih0 _ _ _ _ _)
  | (with_reducible exact LeO.refl _)
  | (with_reducible exact LeO.none _)
  | (with_reducible refine LeO.ite ?_ ?_)
  | (with_reducible refine LeO.bind ?_ (fun _ => ?_))
  | exact ih0 _ _ _ _ _
  | exact LeO.none _
  | refine LeO.ite ?_ ?_
  | refine LeO.bind ?_ (fun _ => ?_)
set_option maxHeartbeats 8000000 in
set_option maxRecDepth 100000 in
theorem api_Attr_123.calls (k : Nat) (A0 : Option Addr) (c0 : Nat) (l0 : List (S99)) (a1_0 : ByteArray) (a1_1 : ByteArray) (r : Int) (w : World) (hr0 : Kd.C k99 w A0 l0.length l0) (hc0 : l0.length ≤ c0) (h : api_Attr_123.f k l0 a1_0 a1_1 = some r) :
 Calls Try.prog 123 #[.slice A0 l0.length c0, .agg #[.string a1_0, .string a1_1]] w fun e w' => e = .returned (.int .i64 r) ∧ Below w.heap.size w w' := by
 have hu99 := Try.underlying99
 have HR0 := aS hr0
 have HC0 := aS hc0
 clear hr0 hc0
 have HB := aS (Below.refl w.heap.size w)
 have H : (api_Attr_123.l0 k l0 (l0.length : Int) 0 a1_0 a1_1) = some r := h
 clear h
 have H' := aS H
 clear H
 go_enter Try.func123, Try.ntmps123
 go_wp2_with (first | ((with_reducible refine gate_dst (N := 3) rfl ?_); refine box_event ?hg (N := 3) ?hd (cs := #[.string a1_0, .string a1_1]) (t := 99) ?hr ?_; (case hd => rfl); (case hg => rfl); (case hr => first | (go_simp; done) | (go_simp; rfl)); intro gb114 hg w3 hbox hb; have n0_ := aS (below_step (by repeat (first | (with_reducible first | exact HB.out | apply bA | apply bN | apply bD) | exact HB.out)) hb); have n1_ := aS (hbox); have n2_ := aS ((by rw [hg]; exact (below_size (by repeat (first | (with_reducible first | exact HB.out | apply bA | apply bN | apply bD) | exact HB.out))) : w.heap.size ≤ gb114)); have n3_ := aS ((by rw [hg]; exact (below_size (by repeat (first | (with_reducible first | exact HB.out | apply bA | apply bN | apply bD) | exact HB.out))) : w.heap.size ≤ gb114)); clear HB; have HB := n0_; have BK114 := n1_; have GW114 := n2_; have GE114 := n3_; clear n0_ n1_ n2_ n3_; clear hb hbox hg))
 repeat (go_quiet (first | ((with_reducible refine gate_dst (N := 3) rfl ?_); refine box_event ?hg (N := 3) ?hd (cs := #[.string a1_0, .string a1_1]) (t := 99) ?hr ?_; (case hd => rfl); (case hg => rfl); (case hr => first | (go_simp; done) | (go_simp; rfl)); intro gb114 hg w3 hbox hb; have n0_ := aS (below_step (by repeat (first | (with_reducible first | exact HB.out | apply bA | apply bN | apply bD) | exact HB.out)) hb); have n1_ := aS (hbox); have n2_ := aS ((by rw [hg]; exact (below_size (by repeat (first | (with_reducible first | exact HB.out | apply bA | apply bN | apply bD) | exact HB.out))) : w.heap.size ≤ gb114)); have n3_ := aS ((by rw [hg]; exact (below_size (by repeat (first | (with_reducible first | exact HB.out | apply bA | apply bN | apply bD) | exact HB.out))) : w.heap.size ≤ gb114)); clear HB; have HB := n0_; have BK114 := n1_; have GW114 := n2_; have GE114 := n3_; clear n0_ n1_ n2_ n3_; clear hb hbox hg)); try go_wp2_with (first | ((with_reducible refine gate_dst (N := 3) rfl ?_); refine box_event ?hg (N := 3) ?hd (cs := #[.string a1_0, .string a1_1]) (t := 99) ?hr ?_; (case hd => rfl); (case hg => rfl); (case hr => first | (go_simp; done) | (go_simp; rfl)); intro gb114 hg w3 hbox hb; have n0_ := aS (below_step (by repeat (first | (with_reducible first | exact HB.out | apply bA | apply bN | apply bD) | exact HB.out)) hb); have n1_ := aS (hbox); have n2_ := aS ((by rw [hg]; exact (below_size (by repeat (first | (with_reducible first | exact HB.out | apply bA | apply bN | apply bD) | exact HB.out))) : w.heap.size ≤ gb114)); have n3_ := aS ((by rw [hg]; exact (below_size (by repeat (first | (with_reducible first | exact HB.out | apply bA | apply bN | apply bD) | exact HB.out))) : w.heap.size ≤ gb114)); clear HB; have HB := n0_; have BK114 := n1_; have GW114 := n2_; have GE114 := n3_; clear n0_ n1_ n2_ n3_; clear hb hbox hg)))
 go_loopg [8] k (fun kq v8 w' => ∃ (x8_1 : Int), v8 = .int .i64 x8_1 ∧ Aside0 (api_Attr_123.l0 kq l0 (l0.length : Int) x8_1 a1_0 a1_1 = some r) ∧ Aside0 (kq ≤ k) ∧ Aside0 (w'.heap[gb114]? = some (.cells #[.string a1_0, .string a1_1] 99 (0, 0))) ∧ Aside0 (Below w.heap.size w w'))
 case atStart => exact ⟨(0), (by first | rfl | (simp; done) | simp [*]), H', ⟨Nat.le_refl _⟩, ⟨by (with_reducible repeat (first | refine kN ?_ _ | refine kD ?_ | refine kA ?_ _)); exact BK114.out⟩, ⟨by repeat (first | (with_reducible first | exact HB.out | apply bA | apply bN | apply bD | refine bS ?_ GE114.out) | exact HB.out)⟩⟩
 case round =>
  clear H'
  try clear c1
  try clear p2
  obtain ⟨x8_1, rfl, HA, HK1, BK114, HB⟩ := hrel
  cases gk with
  | zero => exact absurd HA.out (by simp [api_Attr_123.l0])
  | succ k1 =>
   have H := HA.out
   clear HA
   simp only [api_Attr_123.l0] at H
   by_cases c4 : x8_1 < (l0.length : Int)
   ·rw [if_pos c4] at H
    have c4b0 : decide (x8_1 < (l0.length : Int)) = true := decide_eq_true c4
    clear c4
    by_cases c5 : 0 ≤ x8_1
    ·rw [if_pos c5] at H
     have c5b0 : decide (0 ≤ x8_1) = true := decide_eq_true c5
     clear c5
     by_cases c6 : x8_1 < (l0.length : Int)
     ·rw [if_pos c6] at H
      have c6b0 : decide (x8_1 < (l0.length : Int)) = true := decide_eq_true c6
      clear c6
      by_cases c7 : (a1_0.toList == (((rd_T99 l0 x8_1).f0).toList) && (a1_1.toList == (((rd_T99 l0 x8_1).f1).toList))) = true
      ·rw [if_pos c7] at H
       have c7b0 : (a1_0.toList == (((rd_T99 l0 x8_1).f0).toList) && (a1_1.toList == (((rd_T99 l0 x8_1).f1).toList))) = true := c7
       (try (have c7b1 : decide (a1_0.toList = (((rd_T99 l0 x8_1).f0).toList) && (a1_1.toList == (((rd_T99 l0 x8_1).f1).toList))) = true := by simpa using c7))
       (try (have c7b2 : (a1_0.toList == (((rd_T99 l0 x8_1).f0).toList) && (a1_1.toList == (((rd_T99 l0 x8_1).f1).toList))) = true := by simpa using c7))
       clear c7
       obtain rfl := Option.some.inj H
       have hcz8_0 : wr.cell? ⟨gb114, 0, none⟩ = some (.string a1_0) := (blk_cell BK114.out 0).trans rfl
       have hcz8_1 : wr.cell? ⟨gb114, 1, none⟩ = some (.string a1_1) := (blk_cell BK114.out 1).trans rfl
       have hfz8_0 := blk_frozen BK114.out 0
       have hfz8_1 := blk_frozen BK114.out 1
       have p115 : 0 ≤ (x8_1 : Int) := od (by first | (with_reducible assumption) | assumption)
       have q115 : x8_1 < (l0.length : Int) := od (by first | (with_reducible assumption) | assumption)
       obtain ⟨ad115, e115, hx115_0, hx115_1⟩ := at_T99 HR0.out x8_1 p115 q115
       cases e115
       replace hx115_0 := (HB.out.cell (World.block_lt_of_cell? w _ hx115_0)).trans hx115_0
       replace hx115_1 := (HB.out.cell (World.block_lt_of_cell? w _ hx115_1)).trans hx115_1
       replace p115 := eq_true p115
       replace q115 := eq_true q115
       go_wp2
       repeat (go_quiet (fail); try go_wp2)
       go_ret
       exact ⟨by first | rfl | (simp [errW_none, errW_some] <;> rfl) | (simp [*, errW_none, errW_some] <;> rfl), by repeat (first | (with_reducible first | exact HB.out | apply bA | apply bN | apply bD | refine bS ?_ GE114.out) | exact HB.out)⟩
      ·rw [if_neg c7] at H
       have c7b0 : (a1_0.toList == (((rd_T99 l0 x8_1).f0).toList) && (a1_1.toList == (((rd_T99 l0 x8_1).f1).toList))) = false := by simpa using c7
       (try (have c7b1 : decide (a1_0.toList = (((rd_T99 l0 x8_1).f0).toList) && (a1_1.toList == (((rd_T99 l0 x8_1).f1).toList))) = false := by simpa using c7))
       (try (have c7b2 : (a1_0.toList == (((rd_T99 l0 x8_1).f0).toList) && (a1_1.toList == (((rd_T99 l0 x8_1).f1).toList))) = false := by simpa using c7))
       (try (have c7b3 : ¬ (a1_0.toList = (((rd_T99 l0 x8_1).f0).toList) && (a1_1.toList == (((rd_T99 l0 x8_1).f1).toList))) := by simpa using c7))
       clear c7
       have H' := aS H
       clear H
       have hcz9_0 : wr.cell? ⟨gb114, 0, none⟩ = some (.string a1_0) := (blk_cell BK114.out 0).trans rfl
       have hcz9_1 : wr.cell? ⟨gb114, 1, none⟩ = some (.string a1_1) := (blk_cell BK114.out 1).trans rfl
       have hfz9_0 := blk_frozen BK114.out 0
       have hfz9_1 := blk_frozen BK114.out 1
       have p115 : 0 ≤ (x8_1 : Int) := od (by first | (with_reducible assumption) | assumption)
       have q115 : x8_1 < (l0.length : Int) := od (by first | (with_reducible assumption) | assumption)
       obtain ⟨ad115, e115, hx115_0, hx115_1⟩ := at_T99 HR0.out x8_1 p115 q115
       cases e115
       replace hx115_0 := (HB.out.cell (World.block_lt_of_cell? w _ hx115_0)).trans hx115_0
       replace hx115_1 := (HB.out.cell (World.block_lt_of_cell? w _ hx115_1)).trans hx115_1
       replace p115 := eq_true p115
       replace q115 := eq_true q115
       go_wp2
       repeat (go_quiet (fail); try go_wp2)
       go_roundg k1
       case measure => have := HK1.out; omega
       case rel => exact ⟨(wrap64 (x8_1 + 1)), (by first | rfl | (simp; done) | simp [*]), H', ⟨by have := HK1.out; omega⟩, ⟨by (with_reducible repeat (first | refine kN ?_ _ | refine kD ?_ | refine kA ?_ _)); exact BK114.out⟩, ⟨by repeat (first | (with_reducible first | exact HB.out | apply bA | apply bN | apply bD | refine bS ?_ GE114.out) | exact HB.out)⟩⟩
     ·rw [if_neg c6] at H
      exact absurd H (by simp)
    ·rw [if_neg c5] at H
     exact absurd H (by simp)
   ·rw [if_neg c4] at H
    have c4b0 : decide (x8_1 < (l0.length : Int)) = false := decide_eq_false c4
    clear c4
    obtain rfl := Option.some.inj H
    go_wp2
    repeat (go_quiet (fail); try go_wp2)
    go_ret
    exact ⟨by first | rfl | (simp [errW_none, errW_some] <;> rfl) | (simp [*, errW_none, errW_some] <;> rfl), by repeat (first | (with_reducible first | exact HB.out | apply bA | apply bN | apply bD | refine bS ?_ GE114.out) | exact HB.out)⟩

/-! ### api_Attr_120: function 120 -/
def api_Attr_120.f (k : Nat) (l0 : List (S99)) (a1_0 : ByteArray) (a1_1 : ByteArray) : Option (Bool) := (api_Attr_123.f k l0 a1_0 a1_1).bind fun t117 => (some (decide (t117 ≥ 0)))
theorem api_Attr_120.mono : ∀ a0 a1 a2 k, LeO (api_Attr_120.f k a0 a1 a2) (api_Attr_120.f (k + 1) a0 a1 a2) := by
 intro a0 a1 a2 k
 unfold api_Attr_120.f
 repeat' first
  | (with_reducible exact api_Attr_123.mono _ _ _ _)
  | (with_reducible exact LeO.refl _)
  | (with_reducible exact LeO.none _)
  | (with_reducible refine LeO.ite ?_ ?_)
  | (with_reducible refine LeO.bind ?_ (fun _ => ?_))
  | exact api_Attr_123.mono _ _ _ _
  | exact LeO.none _
  | refine LeO.ite ?_ ?_
  | refine LeO.bind ?_ (fun _ => ?_)
set_option maxHeartbeats 8000000 in
set_option maxRecDepth 100000 in
theorem api_Attr_120.calls (k : Nat) (A0 : Option Addr) (c0 : Nat) (l0 : List (S99)) (a1_0 : ByteArray) (a1_1 : ByteArray) (r : Bool) (w : World) (hr0 : Kd.C k99 w A0 l0.length l0) (hc0 : l0.length ≤ c0) (h : api_Attr_120.f k l0 a1_0 a1_1 = some r) :
 Calls Try.prog 120 #[.slice A0 l0.length c0, .agg #[.string a1_0, .string a1_1]] w fun e w' => e = .returned (.bool r) ∧ Below w.heap.size w w' := by
 have hu99 := Try.underlying99
 have HR0 := aS hr0
 have HC0 := aS hc0
 clear hr0 hc0
 have HB := aS (Below.refl w.heap.size w)
 have H : ((api_Attr_123.f k l0 a1_0 a1_1).bind fun t117 => (some (decide (t117 ≥ 0)))) = some r := h
 clear h
 replace H := Option.bind_eq_some_iff.mp H
 obtain ⟨t117, A30, H⟩ := H
 replace H : (some (decide (t117 ≥ 0))) = some r := H
 have A3 := aS A30
 clear A30
 obtain rfl := Option.some.inj H
 go_enter Try.func120, Try.ntmps120
 go_wp2_with (first | ((with_reducible refine gate_dst (N := 3) rfl ?_); refine box_event ?hg (N := 3) ?hd (cs := #[.string a1_0, .string a1_1]) (t := 99) ?hr ?_; (case hd => rfl); (case hg => rfl); (case hr => first | (go_simp; done) | (go_simp; rfl)); intro gb116 hg w4 hbox hb; have n0_ := aS (below_step (by repeat (first | (with_reducible first | exact HB.out | apply bA | apply bN | apply bD) | exact HB.out)) hb); have n1_ := aS (hbox); have n2_ := aS ((by rw [hg]; exact (below_size (by repeat (first | (with_reducible first | exact HB.out | apply bA | apply bN | apply bD) | exact HB.out))) : w.heap.size ≤ gb116)); have n3_ := aS ((by rw [hg]; exact (below_size (by repeat (first | (with_reducible first | exact HB.out | apply bA | apply bN | apply bD) | exact HB.out))) : w.heap.size ≤ gb116)); clear HB; have HB := n0_; have BK116 := n1_; have GW116 := n2_; have GE116 := n3_; clear n0_ n1_ n2_ n3_; clear hb hbox hg; have hcz5_0 : w4.cell? ⟨gb116, 0, none⟩ = some (.string a1_0) := (blk_cell BK116.out 0).trans rfl; have hcz5_1 : w4.cell? ⟨gb116, 1, none⟩ = some (.string a1_1) := (blk_cell BK116.out 1).trans rfl; have hfz5_0 := blk_frozen BK116.out 0; have hfz5_1 := blk_frozen BK116.out 1) | ((with_reducible refine gate_callee (f := 123) rfl ?_); refine goesL_ (some 7) rfl rfl Try.func123 (by kernel_rfl) rfl #[.slice A0 l0.length c0, .agg #[.string a1_0, .string a1_1]] rfl (by (try simp only [List.map_toArray, List.map_cons, List.map_nil]); first | done | rfl | (simp only [List.length_drop, List.length_take]; rfl)) ?_; (with_reducible refine (api_Attr_123.calls k _ _ l0 a1_0 a1_1 t117 _ ?side1 ?side2 A3.out).mono ?_); (case side1 => repeat (first | exact (Kd.C_below HR0.out HB.out) | (with_reducible refine cA ?_ _) | (with_reducible refine cN ?_ _) | (with_reducible refine cD ?_))); (case side2 => exact HC0.out); rintro e w6 ⟨rfl, hb⟩; refine ⟨_, rfl, ?_⟩; have n0_ := aS (blk_below (g := gb116) (o := .cells #[.string a1_0, .string a1_1] 99 (0, 0)) (by (with_reducible repeat (first | refine kN ?_ _ | refine kD ?_ | refine kA ?_ _)); exact BK116.out) hb); have n1_ := aS (below_step (by repeat (first | (with_reducible first | exact HB.out | apply bA | apply bN | apply bD | refine bS ?_ GE116.out) | exact HB.out)) hb); clear BK116; clear HB; have BK116 := n0_; have HB := n1_; clear n0_ n1_; (try clear hb); (try clear hb2); (try clear hk); (try clear hi)))
 go_ret
 exact ⟨by first | rfl | (simp [errW_none, errW_some] <;> rfl) | (simp [*, errW_none, errW_some] <;> rfl), by repeat (first | (with_reducible first | exact HB.out | apply bA | apply bN | apply bD | refine bS ?_ GE116.out) | exact HB.out)⟩

/-! ### active_within: function 110, given -/
def active_within.f (k : Nat) (l0 l1 : List S99) : Option Bool := if l0.length * 32 ≤ 140737488355328 ∧ l0.all (fun x => (api_Attr_120.f k l1 x.f0 x.f1).isSome) = true then some (!(l0.any (fun x => !((api_Attr_120.f k l1 x.f0 x.f1).getD false)))) else none
theorem active_within.mono : ∀ a0 a1 k, LeO (active_within.f k a0 a1) (active_within.f (k + 1) a0 a1) := by
 intro l0 l1 k r h
 unfold active_within.f at h ⊢
 split at h
 ·rename_i hs
  have he : ∀ x ∈ l0, api_Attr_120.f (k + 1) l1 x.f0 x.f1 = api_Attr_120.f k l1 x.f0 x.f1 := fun x hx => by
   obtain ⟨b, hb⟩ := Option.isSome_iff_exists.1 (List.all_eq_true.1 hs.2 x hx)
   rw [hb]
   exact api_Attr_120.mono _ _ _ _ _ hb
  rw [if_pos ⟨hs.1, List.all_eq_true.2 fun x hx => by rw [he x hx]; exact List.all_eq_true.1 hs.2 x hx⟩, ← h]
  congr 2
  rw [Bool.eq_iff_iff, List.any_eq_true, List.any_eq_true]
  constructor
  ·rintro ⟨x, hx, h1⟩; exact ⟨x, hx, by rw [he x hx] at h1; exact h1⟩
  ·rintro ⟨x, hx, h1⟩; exact ⟨x, hx, by rw [he x hx]; exact h1⟩
 ·cases h
theorem active_within.calls (k : Nat) (A0 : Option Addr) (c0 : Nat) (l0 : List S99) (A1 : Option Addr) (c1 : Nat) (l1 : List S99) (r : Bool) (w : World) (hr0 : Kd.C k99 w A0 l0.length l0) (hc0 : l0.length ≤ c0) (hr1 : Kd.C k99 w A1 l1.length l1) (hc1 : l1.length ≤ c1) (h : active_within.f k l0 l1 = some r) :
 Calls Try.prog 110 #[.slice A0 l0.length c0, .slice A1 l1.length c1] w fun e w' => e = .returned (.bool r) ∧ Below w.heap.size w w' := by
 unfold active_within.f at h
 split at h
 ·rename_i hs
  obtain ⟨hs0, hs1⟩ := hs
  have hr := Option.some.inj h
  clear h
  have eg : ∀ args w, (callFunc 119 args).run Try.prog w = .ok (.enter 119 args) w := enters_of Try.func119 (by kernel_rfl) rfl
  have hb0 : Below w.heap.size w (w.alloc (.cells #[.slice A1 l1.length c1] 23)) := (Below.refl _ w).alloc (Nat.le_refl _) _
  have hH := api_Attr_118.has A0 c0 l0 (fun x => !((api_Attr_120.f k l1 x.f0 x.f1).getD false)) 119 #[.pointer (some ⟨w.heap.size, 0, none⟩)] eg _ (Kd.C_below hr0 hb0) (by omega) (fun W x cs hx hb hK => by
   obtain rfl := k99_open hK
   obtain ⟨b, hb1⟩ := Option.isSome_iff_exists.1 (List.all_eq_true.1 hs1 x hx)
   have hcell : W.cell? ⟨w.heap.size, 0, none⟩ = some (.slice A1 l1.length c1) := (hb.cell (p := ⟨w.heap.size, 0, none⟩) (by simp)).trans (by simp)
   have hlt : w.heap.size < W.heap.size := Nat.lt_of_lt_of_le (by simp) hb.size
   have hC := Kd.C_below (Kd.C_below hr1 hb0) hb
   simp only [hb1, Option.getD_some]
   show Calls Try.prog 119 #[.agg #[.string x.f0, .string x.f1], .pointer (some ⟨w.heap.size, 0, none⟩)] W _
   have HB1 := aS hb1
   have HC := aS hC
   have hne : w.heap.size ≠ W.heap.size := by omega
   have HB := aS hb
   have HC1 := aS hc1
   clear hb1 hC hb hs1 hr hr0 hr1 hc1 hb0 hx hK
   go_enter Try.func119, Try.ntmps119
   go_wp2_with (go_at_call 120; refine (api_Attr_120.calls k A1 c1 l1 x.f0 x.f1 b _ (Kd.C_alloc HC.out _) HC1.out HB1.out).mono ?_; rintro e w' ⟨rfl, hb'⟩)
   go_ret
   exact ⟨rfl, ((Below.refl _ W).alloc (Nat.le_refl _) _).trans (hb'.mono (by simp))⟩)
  obtain ⟨b, hb⟩ : ∃ b, l0.any (fun x => !((api_Attr_120.f k l1 x.f0 x.f1).getD false)) = b := ⟨_, rfl⟩
  rw [hb] at hH hr
  clear hb hs1 hr0 hr1
  subst hr
  go_enter Try.func110, Try.ntmps110
  go_wp2_with (go_at_call 118; refine hH.mono ?_; rintro e w' ⟨rfl, hb'⟩)
  go_ret
  exact ⟨rfl, ((Below.refl _ w).alloc (Nat.le_refl _) _).trans (hb'.mono (by simp))⟩
 ·cases h


end Go.Proofs.Ythecjfkafpndoaa.XAc
