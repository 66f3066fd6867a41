/- Written by this session's program (wip/xp) out of the translation as Lean prints it: for each Go function a Lean function and the proof that the code answers just so, on the conditions named in each statement. -/
import Derived.Test.YthjnallbbhnndaaDoorG2
import Derived.Lib.SlTrimSet
import Derived.ProofKit
import Derived.SizedLaws
import Derived.Deep.Slices
namespace Go.Proofs.YthjnallbbhnndaaDoor.XSp
open Go.Proofs.YthjnallbbhnndaaDoor.Short Go.RowKit Go.Proofs.YthjnallbbhnndaaDoorW.PrintWords Go.Proofs.YthjnallbbhnndaaDoorW.PrintLast Go.Proofs.YthjnallbbhnndaaDoorW.PrintMore
attribute [local go_sem] max2_int min2_int max_two min_two q1n q1m max_four min_four   -- for this text's walks alone
set_option linter.unusedVariables false
set_option linter.unusedSimpArgs false
def dom_up.l0 : Nat → Int → Int → List (S43) → Bool → Option (Int)
 | 0, _, _, _, _ => none
 | k + 1, x1, x4, x237000, x237001 => if 0 ≤ x1 then (if x1 < (x237000.length : Int) then (if ((q00 x237000 x1).f4) ≥ 0 then (if x4 ≤ (x237000.length : Int) then (dom_up.l0 k ((q00 x237000 x1).f4) (wrap64 (x4 + 1)) x237000 x237001) else (some x4)) else (some x4)) else (none)) else (none)
def dom_up.f (k : Nat) (l0_0 : List (S43)) (a0_1 : Bool) (a1 : Int) : Option (Int) := dom_up.l0 k a1 0 l0_0 a0_1
theorem dom_up.mono_l : ∀ k, (∀ y0 y1 y2 y3, LeO (dom_up.l0 k y0 y1 y2 y3) (dom_up.l0 (k + 1) y0 y1 y2 y3))
 | 0 => fun _ _ _ _ r h => by simp [dom_up.l0] at h
 | k + 1 => by
  have ih0 := dom_up.mono_l k
  ·intro y0 y1 y2 y3
   unfold dom_up.l0
   repeat' first | with_reducible first | apply ih0 | exact LeO.refl _ | exact LeO.none _ | refine LeO.ite ?_ ?_ | refine LeO.bind ?_ (fun _ => ?_) | (first | apply ih0 | exact LeO.none _ | refine LeO.ite ?_ ?_ | refine LeO.bind ?_ (fun _ => ?_))
theorem dom_up.mono : ∀ a0 a1 a2 k, LeO (dom_up.f k a0 a1 a2) (dom_up.f (k + 1) a0 a1 a2) := by
 intro a0 a1 a2 k
 have ih0 := dom_up.mono_l k
 unfold dom_up.f
 repeat' first | with_reducible first | apply ih0 | exact LeO.refl _ | exact LeO.none _ | refine LeO.ite ?_ ?_ | refine LeO.bind ?_ (fun _ => ?_) | (first | apply ih0 | exact LeO.none _ | refine LeO.ite ?_ ?_ | refine LeO.bind ?_ (fun _ => ?_))
set_option maxHeartbeats 8000000 in
set_option maxRecDepth 100000 in
theorem dom_up.calls (k : Nat) (A0_0 : Option Addr) (c0_0 : Nat) (l0_0 : List (S43)) (a0_1 : Bool) (a1 : Int) (r : Int) (w : World) (hr0_0 : Kd.C k43 w A0_0 l0_0.length l0_0) (hc0_0 : l0_0.length ≤ c0_0) (h : dom_up.f k l0_0 a0_1 a1 = some r) :
 Calls Tryd.prog 102 #[.agg #[.slice A0_0 l0_0.length c0_0, .bool a0_1], .int .i64 a1] w fun e w' => e = .returned (.int .i64 r) ∧ Below w.heap.size w w' := by
 have hu24 := Tryd.underlying24
 have HR0_0 := aS hr0_0
 have HC0_0 := aS hc0_0
 clear hr0_0 hc0_0
 have HB := aS (Below.refl w.heap.size w)
 have H := h; clear h; unfold dom_up.f at H
 have H' := aS H
 clear H
 go_enter Tryd.func102, Tryd.ntmps102
 go_wp2_with (first | ((with_reducible refine q07 (N := 2) rfl ?_); (try (refine q0z (by rfl) ?_; dsimp only)); refine box0 rfl (N := 2) rfl (cs := #[.slice A0_0 l0_0.length c0_0, .bool a0_1]) (t := 24) zh (z7 HB.out) ?_; clear HB; intro gb236 w3 BK236 GW236 HB; have GE236 := GW236))
 go_loopg [1, 4] k (fun kq v1 v4 w' => ∃ (x1_1 : Int) (x4_1 : Int), v1 = .int .i64 x1_1 ∧ v4 = .int .i64 x4_1 ∧ Aside0 (dom_up.l0 kq x1_1 x4_1 l0_0 a0_1 = some r) ∧ Aside0 (kq ≤ k) ∧ Aside0 (w'.heap[gb236]? = some (.cells #[(.slice A0_0 l0_0.length c0_0), .bool a0_1] 24 (0, 0))) ∧ Aside0 (Below w.heap.size w w'))
 case atStart => exact ⟨(a1), (0), zi, zi, H', ⟨Nat.le_refl _⟩, ⟨by (with_reducible repeat (first | refine kN ?_ _ | refine kD ?_ | refine kA ?_ _)); exact BK236.out⟩, ⟨by repeat (first | (with_reducible first | exact HB.out | apply bA | apply bN | apply bD | refine bS ?_ GE236.out) | exact HB.out)⟩⟩
 case round =>
  clear H'
  obtain ⟨x1_1, x4_1, rfl, rfl, HA, HK1, BK236, HB⟩ := hrel
  cases gk with
  | zero => exact absurd HA.out (by simp [dom_up.l0])
  | succ k1 =>
   have H := HA.out
   clear HA
   simp only [dom_up.l0] at H
   obtain ⟨hczL_0, hczL_1, hfzL_0, hfzL_1⟩ := bk2 BK236.out
   refine iLp H ?_; clear H; intro c4b0 H
   refine iTp H ?_; clear H; intro c5b0 H
   obtain ⟨ad237, A237_2, c237_2, A237_5, c237_5, e237, hx237_0, hx237_1, hx237_2, hx237_3, hx237_4, hx237_5, HC237_2, HR237_2, HC237_5, HR237_5, p237, q237⟩ := q0o HB.out HR0_0.out x1_1 zb zb
   cases e237
   refine iL H ?p6 ?n6 <;> clear H
   case' p6 => intro c6b0 H; refine iL H ?p7 ?n7 <;> clear H
   case' p7 => intro c7b0 H
   case' n7 => intro c7b0 H
   case' n6 => intro c6b0 H
   case p7 =>
    have H' := aS H
    clear H
    obtain ⟨ad238, A238_2, c238_2, A238_5, c238_5, e238, hx238_0, hx238_1, hx238_2, hx238_3, hx238_4, hx238_5, HC238_2, HR238_2, HC238_5, HR238_5, p238, q238⟩ := q0o HB.out HR0_0.out x1_1 zb zb
    obtain rfl : ad237 = ad238 := (by injection e238)
    have ea_ := Option.some.inj (hx237_2.symm.trans hx238_2)
    injection ea_ with ea_ en_ ec_
    subst ea_
    subst ec_
    clear en_
    have ea_ := Option.some.inj (hx237_5.symm.trans hx238_5)
    injection ea_ with ea_ en_ ec_
    subst ea_
    subst ec_
    clear en_
    go_wp2
    go_roundg k1
    case measure => have := HK1.out; omega
    case rel => exact ⟨((q00 l0_0 x1_1).f4), (wrap64 (x4_1 + 1)), zi, zi, H', ⟨by have := HK1.out; omega⟩, ⟨by (with_reducible repeat (first | refine kN ?_ _ | refine kD ?_ | refine kA ?_ _)); exact BK236.out⟩, ⟨by repeat (first | (with_reducible first | exact HB.out | apply bA | apply bN | apply bD | refine bS ?_ GE236.out) | exact HB.out)⟩⟩
   case n7|n6 =>
    obtain rfl := Option.some.inj H
    go_wp2
    go_ret
    exact ⟨by first | rfl | (simp [q05, q04] <;> rfl) | (simp [*, q05, q04] <;> rfl), by repeat (first | (with_reducible first | exact HB.out | apply bA | apply bN | apply bD | refine bS ?_ GE236.out) | exact HB.out)⟩
mutual
def dom_Check.l0 : Nat → List (S43) → Int → Int → List (S43) → Bool → Option (Int)
 | 0, _, _, _, _, _ => none
 | k + 1, x20, x21, x22, x240000, x240001 => if x22 < x21 then (if 0 ≤ x22 then (if x22 < (x20.length : Int) then (if ((((q00 x20 x22).f0) == 1) != (x22 == 0)) = true then (some 3) else ((dom_one.f k ((q00 x20 x22).f0) ((q00 x20 x22).f1) ((q00 x20 x22).f2) ((q00 x20 x22).f3) ((q00 x20 x22).f4) ((q00 x20 x22).f5)).bind fun t242 => (if t242 = 0 then (dom_Check.l0 k x20 x21 (wrap64 (x22 + 1)) x240000 x240001) else (some t242)))) else (none)) else (none)) else ((dom_kids.f k x240000 x240001).bind fun t243 => (if t243 = 0 then (dom_Check.l1 k (x240000.length : Int) 0 x240000 x240001) else (some t243)))
def dom_Check.l1 : Nat → Int → Int → List (S43) → Bool → Option (Int)
 | 0, _, _, _, _ => none
 | k + 1, x46, x47, x240000, x240001 => if x47 < x46 then ((dom_up.f k x240000 x240001 x47).bind fun t244 => (if t244 > (x240000.length : Int) then (some 8) else (if t244 > 40 then (some 2) else (dom_Check.l1 k x46 (wrap64 (x47 + 1)) x240000 x240001)))) else (some 0)
end
def dom_Check.f (k : Nat) (l0_0 : List (S43)) (a0_1 : Bool) : Option (Int) := if (l0_0.length : Int) > 200 then (some 2) else (if (l0_0.length : Int) = 0 then (some 3) else (dom_Check.l0 k l0_0 (l0_0.length : Int) 0 l0_0 a0_1))
theorem dom_Check.mono_l : ∀ k, (∀ y0 y1 y2 y3 y4, LeO (dom_Check.l0 k y0 y1 y2 y3 y4) (dom_Check.l0 (k + 1) y0 y1 y2 y3 y4)) ∧ (∀ y0 y1 y2 y3, LeO (dom_Check.l1 k y0 y1 y2 y3) (dom_Check.l1 (k + 1) y0 y1 y2 y3))
 | 0 => ⟨fun _ _ _ _ _ r h => by simp [dom_Check.l0] at h, fun _ _ _ _ r h => by simp [dom_Check.l1] at h⟩
 | k + 1 => by
  obtain ⟨ih0, ih1⟩ := dom_Check.mono_l k
  refine ⟨?_, ?_⟩
  all_goals intros
  all_goals (first | unfold dom_Check.l0 | unfold dom_Check.l1)
  all_goals (repeat' first | with_reducible first | apply ih0 | apply ih1 | apply dom_kids.mono | apply dom_one.mono | apply dom_up.mono | exact LeO.refl _ | exact LeO.none _ | refine LeO.ite ?_ ?_ | refine LeO.bind ?_ (fun _ => ?_) | (first | apply ih0 | apply ih1 | apply dom_kids.mono | apply dom_one.mono | apply dom_up.mono | exact LeO.none _ | refine LeO.ite ?_ ?_ | refine LeO.bind ?_ (fun _ => ?_)))
theorem dom_Check.mono : ∀ a0 a1 k, LeO (dom_Check.f k a0 a1) (dom_Check.f (k + 1) a0 a1) := by
 intro a0 a1 k
 obtain ⟨ih0, ih1⟩ := dom_Check.mono_l k
 unfold dom_Check.f
 repeat' first | with_reducible first | apply ih0 | apply ih1 | apply dom_kids.mono | apply dom_one.mono | apply dom_up.mono | exact LeO.refl _ | exact LeO.none _ | refine LeO.ite ?_ ?_ | refine LeO.bind ?_ (fun _ => ?_) | (first | apply ih0 | apply ih1 | apply dom_kids.mono | apply dom_one.mono | apply dom_up.mono | exact LeO.none _ | refine LeO.ite ?_ ?_ | refine LeO.bind ?_ (fun _ => ?_))
set_option maxHeartbeats 8000000 in
set_option maxRecDepth 100000 in
theorem dom_Check.calls (k : Nat) (A0_0 : Option Addr) (c0_0 : Nat) (l0_0 : List (S43)) (a0_1 : Bool) (r : Int) (w : World) (hr0_0 : Kd.C k43 w A0_0 l0_0.length l0_0) (hc0_0 : l0_0.length ≤ c0_0) (h : dom_Check.f k l0_0 a0_1 = some r) :
 Calls Tryd.prog 52 #[.agg #[.slice A0_0 l0_0.length c0_0, .bool a0_1]] w fun e w' => e = .returned (.int .i64 r) ∧ Below w.heap.size w w' := by
 have hu24 := Tryd.underlying24
 have hu43 := Tryd.underlying43
 have HR0_0 := aS hr0_0
 have HC0_0 := aS hc0_0
 clear hr0_0 hc0_0
 have HB := aS (Below.refl w.heap.size w)
 have H := h; clear h; unfold dom_Check.f at H
 refine iTN (m := 200) (n := l0_0.length) H rfl rfl ?p2 ?n2 <;> clear H
 case' p2 => intro c2b0 c2b1 H
 case' n2 => intro c2b0 c2b1 H; refine iG H ?p5 ?n5 <;> clear H
 case' p5 => intro c5 H; have c5b0 : ((l0_0.length : Int) == 0) = true := beq_iff_eq.mpr c5; have c5b1 : ((l0_0.length : Int) != 0) = false := bne_eq_false_iff_eq.mpr c5; clear c5
 case' n5 => intro c5 H; have c5b0 : ((l0_0.length : Int) == 0) = false := beq_eq_false_iff_ne.mpr c5; have c5b1 : ((l0_0.length : Int) != 0) = true := bne_iff_ne.mpr c5; have c5b2 : ¬ (l0_0 = []) := fun h_ => c5 (by rw [h_]; rfl)
 case p2 =>
  obtain rfl := Option.some.inj H
  go_enter Tryd.func52, Tryd.ntmps52
  go_wp2_with (first | ((with_reducible refine q07 (N := 1) rfl ?_); refine box0 rfl (N := 1) rfl (cs := #[.slice A0_0 l0_0.length c0_0, .bool a0_1]) (t := 24) zh (z7 HB.out) ?_; clear HB; intro gb239 w3 BK239 GW239 HB; have GE239 := GW239; obtain ⟨hczL_0, hczL_1, hfzL_0, hfzL_1⟩ := bk2 BK239.out))
  go_ret
  exact ⟨by first | rfl | (simp [q05, q04] <;> rfl) | (simp [*, q05, q04] <;> rfl), by repeat (first | (with_reducible first | exact HB.out | apply bA | apply bN | apply bD | refine bS ?_ GE239.out) | exact HB.out)⟩
 case p5 =>
  obtain rfl := Option.some.inj H
  go_enter Tryd.func52, Tryd.ntmps52
  go_wp2_with (first | ((with_reducible refine q07 (N := 1) rfl ?_); refine box0 rfl (N := 1) rfl (cs := #[.slice A0_0 l0_0.length c0_0, .bool a0_1]) (t := 24) zh (z7 HB.out) ?_; clear HB; intro gb239 w6 BK239 GW239 HB; have GE239 := GW239; obtain ⟨hczL_0, hczL_1, hfzL_0, hfzL_1⟩ := bk2 BK239.out))
  go_ret
  exact ⟨by first | rfl | (simp [q05, q04] <;> rfl) | (simp [*, q05, q04] <;> rfl), by repeat (first | (with_reducible first | exact HB.out | apply bA | apply bN | apply bD | refine bS ?_ GE239.out) | exact HB.out)⟩
 case n5 =>
  have H' := aS H
  clear H
  go_enter Tryd.func52, Tryd.ntmps52
  go_wp2_with (first | ((with_reducible refine q07 (N := 1) rfl ?_); refine box0 rfl (N := 1) rfl (cs := #[.slice A0_0 l0_0.length c0_0, .bool a0_1]) (t := 24) zh (z7 HB.out) ?_; clear HB; intro gb239 w8 BK239 GW239 HB; have GE239 := GW239; obtain ⟨hczL_0, hczL_1, hfzL_0, hfzL_1⟩ := bk2 BK239.out))
  go_loopg [22] k (fun kq v22 w' => ∃ (x22_1 : Int), v22 = .int .i64 x22_1 ∧ Aside0 (dom_Check.l0 kq l0_0 (l0_0.length : Int) x22_1 l0_0 a0_1 = some r) ∧ Aside0 (kq ≤ k) ∧ Aside0 (w'.heap[gb239]? = some (.cells #[(.slice A0_0 l0_0.length c0_0), .bool a0_1] 24 (0, 0))) ∧ Aside0 (Below w.heap.size w w'))
  case atStart => exact ⟨(0), zi, H', ⟨Nat.le_refl _⟩, ⟨by (with_reducible repeat (first | refine kN ?_ _ | refine kD ?_ | refine kA ?_ _)); exact BK239.out⟩, ⟨by repeat (first | (with_reducible first | exact HB.out | apply bA | apply bN | apply bD | refine bS ?_ GE239.out) | exact HB.out)⟩⟩
  case round =>
   clear H'
   obtain ⟨x22_1, rfl, HA, HK1, BK239, HB⟩ := hrel
   cases gk with
   | zero => exact absurd HA.out (by simp [dom_Check.l0])
   | succ k1 =>
    have H := HA.out
    clear HA
    simp only [dom_Check.l0] at H
    refine iT H ?p10 ?n10 <;> clear H
    case' p10 => intro c10b0 H; refine iLp H ?_; clear H; intro c11b0 H; refine iTp H ?_; clear H; intro c12b0 H; refine iG H ?p13 ?n13 <;> clear H
    case' p13 => intro c13 H; have c13b0 : ((((q00 l0_0 x22_1).f0) == 1) != (x22_1 == 0)) = true := c13
    case' n13 =>
     intro c13 H
     have c13b0 : ((((q00 l0_0 x22_1).f0) == 1) != (x22_1 == 0)) = false := by simpa using c13
     (try (have c13b1 : decide ((((q00 l0_0 x22_1).f0) == 1) = (x22_1 == 0)) = true := by simpa using c13))
     (try (have c13b2 : ((((q00 l0_0 x22_1).f0) == 1) == (x22_1 == 0)) = true := by simpa using c13))
     clear c13
     replace H := iB H
     obtain ⟨t242, A17, H⟩ := H
     obtain ⟨ad240, A240_2, c240_2, A240_5, c240_5, e240, hx240_0, hx240_1, hx240_2, hx240_3, hx240_4, hx240_5, HC240_2, HR240_2, HC240_5, HR240_5, p240, q240⟩ := q0o HB.out HR0_0.out x22_1 zb zb
     cases e240
     refine iE H ?p18 ?n18 <;> clear H
    case' p18 => intro c18b0 c18b1 H
    case' n18 => intro c18 c18b0 c18b1 H
    case' n10 => intro c10b0 H; replace H := iB H; obtain ⟨t243, A27, H⟩ := H; obtain ⟨hczL_0, hczL_1, hfzL_0, hfzL_1⟩ := bk2 BK239.out; refine iE H ?p28 ?n28 <;> clear H
    case' p28 => intro c28b0 c28b1 H
    case' n28 => intro c28 c28b0 c28b1 H
    case p13 =>
     (try (have c13b1 : decide ((((q00 l0_0 x22_1).f0) == 1) = (x22_1 == 0)) = false := by simpa using c13))
     (try (have c13b2 : ((((q00 l0_0 x22_1).f0) == 1) == (x22_1 == 0)) = false := by simpa using c13))
     (try (have c13b3 : ¬ ((((q00 l0_0 x22_1).f0) == 1) = (x22_1 == 0)) := by simpa using c13))
     clear c13
     obtain rfl := Option.some.inj H
     obtain ⟨ad240, A240_2, c240_2, A240_5, c240_5, e240, hx240_0, hx240_1, hx240_2, hx240_3, hx240_4, hx240_5, HC240_2, HR240_2, HC240_5, HR240_5, p240, q240⟩ := q0o HB.out HR0_0.out x22_1 zb zb
     cases e240
     go_wp2_with (first | ((with_reducible refine q07 (N := 4) rfl ?_); refine q0j ?hg (N := 4) ?hd (cs := #[.int .i64 0, .string (⟨#[]⟩ : ByteArray), .slice none 0 0, .string (⟨#[]⟩ : ByteArray), .int .i64 0, .slice none 0 0]) (t := 43) ?hr ?_; (case hd => rfl); (case hg => rfl); (case hr => first | (go_simp; done) | (go_simp; rfl)); intro gb241 hg w14 hbox hb; have n0_ := aS (q01 (g := gb239) (o := .cells #[.slice (some ad240) l0_0.length c0_0, .bool a0_1] 24 (0, 0)) (za BK239.out) hb); have n1_ := aS (q02 (z6 HB.out GE239.out) hb); have n2_ := aS (hbox); have n3_ := aS ((by rw [hg]; exact (q06 (z6 HB.out GE239.out)) : w.heap.size ≤ gb241)); have n4_ := aS ((by rw [hg]; exact (q06 (z6 HB.out GE239.out)) : w.heap.size ≤ gb241)); have n5_ := aS ((by rw [hg]; exact Nat.ne_of_lt (q0i (g := gb239) (o := .cells #[.slice (some ad240) l0_0.length c0_0, .bool a0_1] 24 (0, 0)) (za BK239.out)) : gb239 ≠ gb241)); have n6_ := aS ((by rw [hg]; exact Nat.ne_of_gt (q0i (g := gb239) (o := .cells #[.slice (some ad240) l0_0.length c0_0, .bool a0_1] 24 (0, 0)) (za BK239.out)) : gb241 ≠ gb239)); clear BK239; clear HB; have BK239 := n0_; have HB := n1_; have BK241 := n2_; have GW241 := n3_; have GE241 := n4_; have NB239_241 := n5_; have NB241_239 := n6_; clear n0_ n1_ n2_ n3_ n4_ n5_ n6_; clear hb hbox hg; have hnb15 := NB241_239.out; have hnc15 := NB239_241.out; obtain ⟨hczL_0, hczL_1, hczL_2, hczL_3, hczL_4, hczL_5, hfzL_0, hfzL_1, hfzL_2, hfzL_3, hfzL_4, hfzL_5⟩ := bk6 BK241.out))
     go_ret
     exact ⟨by first | rfl | (simp [q05, q04] <;> rfl) | (simp [*, q05, q04] <;> rfl), by repeat (first | (with_reducible first | exact HB.out | apply bA | apply bN | apply bD | refine bS ?_ GE239.out | refine bS ?_ GE241.out) | exact HB.out)⟩
    case p18 =>
     have H' := aS H
     clear H
     go_wp2_with (first | ((with_reducible refine q07 (N := 4) rfl ?_); refine q0j ?hg (N := 4) ?hd (cs := #[.int .i64 0, .string (⟨#[]⟩ : ByteArray), .slice none 0 0, .string (⟨#[]⟩ : ByteArray), .int .i64 0, .slice none 0 0]) (t := 43) ?hr ?_; (case hd => rfl); (case hg => rfl); (case hr => first | (go_simp; done) | (go_simp; rfl)); intro gb241 hg w19 hbox hb; have n0_ := aS (q01 (g := gb239) (o := .cells #[.slice (some ad240) l0_0.length c0_0, .bool a0_1] 24 (0, 0)) (za BK239.out) hb); have n1_ := aS (q02 (z6 HB.out GE239.out) hb); have n2_ := aS (hbox); have n3_ := aS ((by rw [hg]; exact (q06 (z6 HB.out GE239.out)) : w.heap.size ≤ gb241)); have n4_ := aS ((by rw [hg]; exact (q06 (z6 HB.out GE239.out)) : w.heap.size ≤ gb241)); have n5_ := aS ((by rw [hg]; exact Nat.ne_of_lt (q0i (g := gb239) (o := .cells #[.slice (some ad240) l0_0.length c0_0, .bool a0_1] 24 (0, 0)) (za BK239.out)) : gb239 ≠ gb241)); have n6_ := aS ((by rw [hg]; exact Nat.ne_of_gt (q0i (g := gb239) (o := .cells #[.slice (some ad240) l0_0.length c0_0, .bool a0_1] 24 (0, 0)) (za BK239.out)) : gb241 ≠ gb239)); clear BK239; clear HB; have BK239 := n0_; have HB := n1_; have BK241 := n2_; have GW241 := n3_; have GE241 := n4_; have NB239_241 := n5_; have NB241_239 := n6_; clear n0_ n1_ n2_ n3_ n4_ n5_ n6_; clear hb hbox hg; have hnb20 := NB241_239.out; have hnc20 := NB239_241.out; obtain ⟨hczL_0, hczL_1, hczL_2, hczL_3, hczL_4, hczL_5, hfzL_0, hfzL_1, hfzL_2, hfzL_3, hfzL_4, hfzL_5⟩ := bk6 BK241.out) | ((with_reducible refine q08 (f := 100) rfl ?_); refine q0n (some 34) rfl rfl Tryd.func100 (by kernel_rfl) rfl #[.agg #[.int .i64 ((q00 l0_0 x22_1).f0), .string ((q00 l0_0 x22_1).f1), .slice A240_2 ((q00 l0_0 x22_1).f2).length c240_2, .string ((q00 l0_0 x22_1).f3), .int .i64 ((q00 l0_0 x22_1).f4), .slice A240_5 ((q00 l0_0 x22_1).f5).length c240_5]] rfl zc ?_; (with_reducible refine (dom_one.calls k1 ((q00 l0_0 x22_1).f0) ((q00 l0_0 x22_1).f1) _ _ ((q00 l0_0 x22_1).f2) ((q00 l0_0 x22_1).f3) ((q00 l0_0 x22_1).f4) _ _ ((q00 l0_0 x22_1).f5) t242 _ ?side1 ?side2 ?side3 ?side4 A17.out).mono ?_); (case side1 => exact Kd.C_below HR240_2.out (by repeat (first | (with_reducible first | exact HB.out | apply bA | apply bN | apply bD | refine bS ?_ GE239.out | refine bS ?_ GE241.out) | exact HB.out))); (case side2 => exact HC240_2.out); (case side3 => exact Kd.C_below HR240_5.out (by repeat (first | (with_reducible first | exact HB.out | apply bA | apply bN | apply bD | refine bS ?_ GE239.out | refine bS ?_ GE241.out) | exact HB.out))); (case side4 => exact HC240_5.out); rintro e w22 ⟨rfl, hb⟩; refine ⟨_, rfl, ?_⟩; replace BK239 := aS (q01 (g := gb239) (o := .cells #[.slice (some ad240) l0_0.length c0_0, .bool a0_1] 24 (0, 0)) (by (with_reducible repeat (first | refine kN ?_ _ | refine kD ?_ | refine kA ?_ _)); refine q0d ?_ NB239_241.out _; (with_reducible repeat (first | refine kN ?_ _ | refine kD ?_ | refine kA ?_ _)); refine q0d ?_ NB239_241.out _; (with_reducible repeat (first | refine kN ?_ _ | refine kD ?_ | refine kA ?_ _)); refine q0d ?_ NB239_241.out _; (with_reducible repeat (first | refine kN ?_ _ | refine kD ?_ | refine kA ?_ _)); refine q0d ?_ NB239_241.out _; (with_reducible repeat (first | refine kN ?_ _ | refine kD ?_ | refine kA ?_ _)); refine q0d ?_ NB239_241.out _; (with_reducible repeat (first | refine kN ?_ _ | refine kD ?_ | refine kA ?_ _)); refine q0d ?_ NB239_241.out _; (with_reducible repeat (first | refine kN ?_ _ | refine kD ?_ | refine kA ?_ _)); exact BK239.out) hb); replace BK241 := aS (q01 (g := gb241) (o := .cells #[.int .i64 ((q00 l0_0 x22_1).f0), .string ((q00 l0_0 x22_1).f1), .slice A240_2 ((q00 l0_0 x22_1).f2).length c240_2, .string ((q00 l0_0 x22_1).f3), .int .i64 ((q00 l0_0 x22_1).f4), .slice A240_5 ((q00 l0_0 x22_1).f5).length c240_5] 43 (0, 0)) (by (with_reducible repeat (first | refine kN ?_ _ | refine kD ?_ | refine kA ?_ _)); refine q0h (cs := #[.int .i64 ((q00 l0_0 x22_1).f0), .string ((q00 l0_0 x22_1).f1), .slice A240_2 ((q00 l0_0 x22_1).f2).length c240_2, .string ((q00 l0_0 x22_1).f3), .int .i64 ((q00 l0_0 x22_1).f4), .slice none 0 0]) ?_ 5 _ rfl; (with_reducible repeat (first | refine kN ?_ _ | refine kD ?_ | refine kA ?_ _)); refine q0h (cs := #[.int .i64 ((q00 l0_0 x22_1).f0), .string ((q00 l0_0 x22_1).f1), .slice A240_2 ((q00 l0_0 x22_1).f2).length c240_2, .string ((q00 l0_0 x22_1).f3), .int .i64 0, .slice none 0 0]) ?_ 4 _ rfl; (with_reducible repeat (first | refine kN ?_ _ | refine kD ?_ | refine kA ?_ _)); refine q0h (cs := #[.int .i64 ((q00 l0_0 x22_1).f0), .string ((q00 l0_0 x22_1).f1), .slice A240_2 ((q00 l0_0 x22_1).f2).length c240_2, .string (⟨#[]⟩ : ByteArray), .int .i64 0, .slice none 0 0]) ?_ 3 _ rfl; (with_reducible repeat (first | refine kN ?_ _ | refine kD ?_ | refine kA ?_ _)); refine q0h (cs := #[.int .i64 ((q00 l0_0 x22_1).f0), .string ((q00 l0_0 x22_1).f1), .slice none 0 0, .string (⟨#[]⟩ : ByteArray), .int .i64 0, .slice none 0 0]) ?_ 2 _ rfl; (with_reducible repeat (first | refine kN ?_ _ | refine kD ?_ | refine kA ?_ _)); refine q0h (cs := #[.int .i64 ((q00 l0_0 x22_1).f0), .string (⟨#[]⟩ : ByteArray), .slice none 0 0, .string (⟨#[]⟩ : ByteArray), .int .i64 0, .slice none 0 0]) ?_ 1 _ rfl; (with_reducible repeat (first | refine kN ?_ _ | refine kD ?_ | refine kA ?_ _)); refine q0h (cs := #[.int .i64 0, .string (⟨#[]⟩ : ByteArray), .slice none 0 0, .string (⟨#[]⟩ : ByteArray), .int .i64 0, .slice none 0 0]) ?_ 0 _ rfl; (with_reducible repeat (first | refine kN ?_ _ | refine kD ?_ | refine kA ?_ _)); exact BK241.out) hb); replace HB := aS (q02 (by repeat (first | (with_reducible first | exact HB.out | apply bA | apply bN | apply bD | refine bS ?_ GE239.out | refine bS ?_ GE241.out) | exact HB.out)) hb); (try clear hb); (try clear hb2); (try clear hk); (try clear hi)))
     go_roundg k1
     case measure => have := HK1.out; omega
     case rel => exact ⟨(wrap64 (x22_1 + 1)), zi, H', ⟨by have := HK1.out; omega⟩, ⟨by (with_reducible repeat (first | refine kN ?_ _ | refine kD ?_ | refine kA ?_ _)); exact BK239.out⟩, ⟨by repeat (first | (with_reducible first | exact HB.out | apply bA | apply bN | apply bD | refine bS ?_ GE239.out | refine bS ?_ GE241.out) | exact HB.out)⟩⟩
    case n18 =>
     obtain rfl := Option.some.inj H
     go_wp2_with (first | ((with_reducible refine q07 (N := 4) rfl ?_); refine q0j ?hg (N := 4) ?hd (cs := #[.int .i64 0, .string (⟨#[]⟩ : ByteArray), .slice none 0 0, .string (⟨#[]⟩ : ByteArray), .int .i64 0, .slice none 0 0]) (t := 43) ?hr ?_; (case hd => rfl); (case hg => rfl); (case hr => first | (go_simp; done) | (go_simp; rfl)); intro gb241 hg w23 hbox hb; have n0_ := aS (q01 (g := gb239) (o := .cells #[.slice (some ad240) l0_0.length c0_0, .bool a0_1] 24 (0, 0)) (za BK239.out) hb); have n1_ := aS (q02 (z6 HB.out GE239.out) hb); have n2_ := aS (hbox); have n3_ := aS ((by rw [hg]; exact (q06 (z6 HB.out GE239.out)) : w.heap.size ≤ gb241)); have n4_ := aS ((by rw [hg]; exact (q06 (z6 HB.out GE239.out)) : w.heap.size ≤ gb241)); have n5_ := aS ((by rw [hg]; exact Nat.ne_of_lt (q0i (g := gb239) (o := .cells #[.slice (some ad240) l0_0.length c0_0, .bool a0_1] 24 (0, 0)) (za BK239.out)) : gb239 ≠ gb241)); have n6_ := aS ((by rw [hg]; exact Nat.ne_of_gt (q0i (g := gb239) (o := .cells #[.slice (some ad240) l0_0.length c0_0, .bool a0_1] 24 (0, 0)) (za BK239.out)) : gb241 ≠ gb239)); clear BK239; clear HB; have BK239 := n0_; have HB := n1_; have BK241 := n2_; have GW241 := n3_; have GE241 := n4_; have NB239_241 := n5_; have NB241_239 := n6_; clear n0_ n1_ n2_ n3_ n4_ n5_ n6_; clear hb hbox hg; have hnb24 := NB241_239.out; have hnc24 := NB239_241.out; obtain ⟨hczL_0, hczL_1, hczL_2, hczL_3, hczL_4, hczL_5, hfzL_0, hfzL_1, hfzL_2, hfzL_3, hfzL_4, hfzL_5⟩ := bk6 BK241.out) | ((with_reducible refine q08 (f := 100) rfl ?_); refine q0n (some 34) rfl rfl Tryd.func100 (by kernel_rfl) rfl #[.agg #[.int .i64 ((q00 l0_0 x22_1).f0), .string ((q00 l0_0 x22_1).f1), .slice A240_2 ((q00 l0_0 x22_1).f2).length c240_2, .string ((q00 l0_0 x22_1).f3), .int .i64 ((q00 l0_0 x22_1).f4), .slice A240_5 ((q00 l0_0 x22_1).f5).length c240_5]] rfl zc ?_; (with_reducible refine (dom_one.calls k1 ((q00 l0_0 x22_1).f0) ((q00 l0_0 x22_1).f1) _ _ ((q00 l0_0 x22_1).f2) ((q00 l0_0 x22_1).f3) ((q00 l0_0 x22_1).f4) _ _ ((q00 l0_0 x22_1).f5) t242 _ ?side1 ?side2 ?side3 ?side4 A17.out).mono ?_); (case side1 => exact Kd.C_below HR240_2.out (by repeat (first | (with_reducible first | exact HB.out | apply bA | apply bN | apply bD | refine bS ?_ GE239.out | refine bS ?_ GE241.out) | exact HB.out))); (case side2 => exact HC240_2.out); (case side3 => exact Kd.C_below HR240_5.out (by repeat (first | (with_reducible first | exact HB.out | apply bA | apply bN | apply bD | refine bS ?_ GE239.out | refine bS ?_ GE241.out) | exact HB.out))); (case side4 => exact HC240_5.out); rintro e w26 ⟨rfl, hb⟩; refine ⟨_, rfl, ?_⟩; replace BK239 := aS (q01 (g := gb239) (o := .cells #[.slice (some ad240) l0_0.length c0_0, .bool a0_1] 24 (0, 0)) (by (with_reducible repeat (first | refine kN ?_ _ | refine kD ?_ | refine kA ?_ _)); refine q0d ?_ NB239_241.out _; (with_reducible repeat (first | refine kN ?_ _ | refine kD ?_ | refine kA ?_ _)); refine q0d ?_ NB239_241.out _; (with_reducible repeat (first | refine kN ?_ _ | refine kD ?_ | refine kA ?_ _)); refine q0d ?_ NB239_241.out _; (with_reducible repeat (first | refine kN ?_ _ | refine kD ?_ | refine kA ?_ _)); refine q0d ?_ NB239_241.out _; (with_reducible repeat (first | refine kN ?_ _ | refine kD ?_ | refine kA ?_ _)); refine q0d ?_ NB239_241.out _; (with_reducible repeat (first | refine kN ?_ _ | refine kD ?_ | refine kA ?_ _)); refine q0d ?_ NB239_241.out _; (with_reducible repeat (first | refine kN ?_ _ | refine kD ?_ | refine kA ?_ _)); exact BK239.out) hb); replace BK241 := aS (q01 (g := gb241) (o := .cells #[.int .i64 ((q00 l0_0 x22_1).f0), .string ((q00 l0_0 x22_1).f1), .slice A240_2 ((q00 l0_0 x22_1).f2).length c240_2, .string ((q00 l0_0 x22_1).f3), .int .i64 ((q00 l0_0 x22_1).f4), .slice A240_5 ((q00 l0_0 x22_1).f5).length c240_5] 43 (0, 0)) (by (with_reducible repeat (first | refine kN ?_ _ | refine kD ?_ | refine kA ?_ _)); refine q0h (cs := #[.int .i64 ((q00 l0_0 x22_1).f0), .string ((q00 l0_0 x22_1).f1), .slice A240_2 ((q00 l0_0 x22_1).f2).length c240_2, .string ((q00 l0_0 x22_1).f3), .int .i64 ((q00 l0_0 x22_1).f4), .slice none 0 0]) ?_ 5 _ rfl; (with_reducible repeat (first | refine kN ?_ _ | refine kD ?_ | refine kA ?_ _)); refine q0h (cs := #[.int .i64 ((q00 l0_0 x22_1).f0), .string ((q00 l0_0 x22_1).f1), .slice A240_2 ((q00 l0_0 x22_1).f2).length c240_2, .string ((q00 l0_0 x22_1).f3), .int .i64 0, .slice none 0 0]) ?_ 4 _ rfl; (with_reducible repeat (first | refine kN ?_ _ | refine kD ?_ | refine kA ?_ _)); refine q0h (cs := #[.int .i64 ((q00 l0_0 x22_1).f0), .string ((q00 l0_0 x22_1).f1), .slice A240_2 ((q00 l0_0 x22_1).f2).length c240_2, .string (⟨#[]⟩ : ByteArray), .int .i64 0, .slice none 0 0]) ?_ 3 _ rfl; (with_reducible repeat (first | refine kN ?_ _ | refine kD ?_ | refine kA ?_ _)); refine q0h (cs := #[.int .i64 ((q00 l0_0 x22_1).f0), .string ((q00 l0_0 x22_1).f1), .slice none 0 0, .string (⟨#[]⟩ : ByteArray), .int .i64 0, .slice none 0 0]) ?_ 2 _ rfl; (with_reducible repeat (first | refine kN ?_ _ | refine kD ?_ | refine kA ?_ _)); refine q0h (cs := #[.int .i64 ((q00 l0_0 x22_1).f0), .string (⟨#[]⟩ : ByteArray), .slice none 0 0, .string (⟨#[]⟩ : ByteArray), .int .i64 0, .slice none 0 0]) ?_ 1 _ rfl; (with_reducible repeat (first | refine kN ?_ _ | refine kD ?_ | refine kA ?_ _)); refine q0h (cs := #[.int .i64 0, .string (⟨#[]⟩ : ByteArray), .slice none 0 0, .string (⟨#[]⟩ : ByteArray), .int .i64 0, .slice none 0 0]) ?_ 0 _ rfl; (with_reducible repeat (first | refine kN ?_ _ | refine kD ?_ | refine kA ?_ _)); exact BK241.out) hb); replace HB := aS (q02 (by repeat (first | (with_reducible first | exact HB.out | apply bA | apply bN | apply bD | refine bS ?_ GE239.out | refine bS ?_ GE241.out) | exact HB.out)) hb); (try clear hb); (try clear hb2); (try clear hk); (try clear hi)))
     go_ret
     exact ⟨by first | rfl | (simp [q05, q04] <;> rfl) | (simp [*, q05, q04] <;> rfl), by repeat (first | (with_reducible first | exact HB.out | apply bA | apply bN | apply bD | refine bS ?_ GE239.out | refine bS ?_ GE241.out) | exact HB.out)⟩
    case p28 =>
     have H' := aS H
     clear H
     go_wp2_with (first | ((with_reducible refine q08 (f := 101) rfl ?_); refine q0n (some 40) rfl rfl Tryd.func101 (by kernel_rfl) rfl #[.agg #[.slice A0_0 l0_0.length c0_0, .bool a0_1]] rfl zc ?_; (with_reducible refine (dom_kids.calls k1 _ _ l0_0 a0_1 t243 _ ?side1 ?side2 A27.out).mono ?_); (case side1 => repeat (first | exact (Kd.C_below HR0_0.out HB.out) | (with_reducible refine cA ?_ _) | (with_reducible refine cN ?_ _) | (with_reducible refine cD ?_))); (case side2 => exact HC0_0.out); rintro e w30 ⟨rfl, hb⟩; refine ⟨_, rfl, ?_⟩; replace BK239 := aS (q01 (g := gb239) (o := .cells #[.slice A0_0 l0_0.length c0_0, .bool a0_1] 24 (0, 0)) (za BK239.out) hb); replace HB := aS (q02 (z6 HB.out GE239.out) hb); (try clear hb); (try clear hb2); (try clear hk); (try clear hi); obtain ⟨hczL_0, hczL_1, hfzL_0, hfzL_1⟩ := bk2 BK239.out))
     go_loopg [47] k1 (fun kq v47 w' => ∃ (x47_2 : Int), v47 = .int .i64 x47_2 ∧ Aside0 (dom_Check.l1 kq (l0_0.length : Int) x47_2 l0_0 a0_1 = some r) ∧ Aside0 (kq ≤ k1) ∧ Aside0 (w'.heap[gb239]? = some (.cells #[(.slice A0_0 l0_0.length c0_0), .bool a0_1] 24 (0, 0))) ∧ Aside0 (Below w.heap.size w w'))
     case atStart => exact ⟨(0), zi, H', ⟨Nat.le_refl _⟩, ⟨by (with_reducible repeat (first | refine kN ?_ _ | refine kD ?_ | refine kA ?_ _)); exact BK239.out⟩, ⟨by repeat (first | (with_reducible first | exact HB.out | apply bA | apply bN | apply bD | refine bS ?_ GE239.out) | exact HB.out)⟩⟩
     case round =>
      clear H'
      obtain ⟨x47_2, rfl, HA, HK2, BK239, HB⟩ := hrel
      cases gk with
      | zero => exact absurd HA.out (by simp [dom_Check.l1])
      | succ k2 =>
       have H := HA.out
       clear HA
       simp only [dom_Check.l1] at H
       refine iT H ?p32 ?n32 <;> clear H
       case' p32 => intro c32b0 H; replace H := iB H; obtain ⟨t244, A33, H⟩ := H; obtain ⟨hczL_0, hczL_1, hfzL_0, hfzL_1⟩ := bk2 BK239.out; refine iT H ?p34 ?n34 <;> clear H
       case' p34 => intro c34b0 H
       case' n34 => intro c34b0 H; refine iT H ?p38 ?n38 <;> clear H
       case' p38 => intro c38b0 H
       case' n38 => intro c38b0 H
       case' n32 => intro c32b0 H
       case p34 =>
        obtain rfl := Option.some.inj H
        go_wp2_with (first | ((with_reducible refine q08 (f := 102) rfl ?_); refine q0n (some 52) rfl rfl Tryd.func102 (by kernel_rfl) rfl #[.agg #[.slice A0_0 l0_0.length c0_0, .bool a0_1], .int .i64 x47_2] rfl zc ?_; (with_reducible refine (dom_up.calls k2 _ _ l0_0 a0_1 x47_2 t244 _ ?side1 ?side2 A33.out).mono ?_); (case side1 => repeat (first | exact (Kd.C_below HR0_0.out HB.out) | (with_reducible refine cA ?_ _) | (with_reducible refine cN ?_ _) | (with_reducible refine cD ?_))); (case side2 => exact HC0_0.out); rintro e w36 ⟨rfl, hb⟩; refine ⟨_, rfl, ?_⟩; replace BK239 := aS (q01 (g := gb239) (o := .cells #[.slice A0_0 l0_0.length c0_0, .bool a0_1] 24 (0, 0)) (za BK239.out) hb); replace HB := aS (q02 (z6 HB.out GE239.out) hb); (try clear hb); (try clear hb2); (try clear hk); (try clear hi); obtain ⟨hczL_0, hczL_1, hfzL_0, hfzL_1⟩ := bk2 BK239.out))
        go_ret
        exact ⟨by first | rfl | (simp [q05, q04] <;> rfl) | (simp [*, q05, q04] <;> rfl), by repeat (first | (with_reducible first | exact HB.out | apply bA | apply bN | apply bD | refine bS ?_ GE239.out) | exact HB.out)⟩
       case p38 =>
        obtain rfl := Option.some.inj H
        go_wp2_with (first | ((with_reducible refine q08 (f := 102) rfl ?_); refine q0n (some 52) rfl rfl Tryd.func102 (by kernel_rfl) rfl #[.agg #[.slice A0_0 l0_0.length c0_0, .bool a0_1], .int .i64 x47_2] rfl zc ?_; (with_reducible refine (dom_up.calls k2 _ _ l0_0 a0_1 x47_2 t244 _ ?side1 ?side2 A33.out).mono ?_); (case side1 => repeat (first | exact (Kd.C_below HR0_0.out HB.out) | (with_reducible refine cA ?_ _) | (with_reducible refine cN ?_ _) | (with_reducible refine cD ?_))); (case side2 => exact HC0_0.out); rintro e w40 ⟨rfl, hb⟩; refine ⟨_, rfl, ?_⟩; replace BK239 := aS (q01 (g := gb239) (o := .cells #[.slice A0_0 l0_0.length c0_0, .bool a0_1] 24 (0, 0)) (za BK239.out) hb); replace HB := aS (q02 (z6 HB.out GE239.out) hb); (try clear hb); (try clear hb2); (try clear hk); (try clear hi); obtain ⟨hczL_0, hczL_1, hfzL_0, hfzL_1⟩ := bk2 BK239.out))
        go_ret
        exact ⟨by first | rfl | (simp [q05, q04] <;> rfl) | (simp [*, q05, q04] <;> rfl), by repeat (first | (with_reducible first | exact HB.out | apply bA | apply bN | apply bD | refine bS ?_ GE239.out) | exact HB.out)⟩
       case n38 =>
        have H' := aS H
        clear H
        go_wp2_with (first | ((with_reducible refine q08 (f := 102) rfl ?_); refine q0n (some 52) rfl rfl Tryd.func102 (by kernel_rfl) rfl #[.agg #[.slice A0_0 l0_0.length c0_0, .bool a0_1], .int .i64 x47_2] rfl zc ?_; (with_reducible refine (dom_up.calls k2 _ _ l0_0 a0_1 x47_2 t244 _ ?side1 ?side2 A33.out).mono ?_); (case side1 => repeat (first | exact (Kd.C_below HR0_0.out HB.out) | (with_reducible refine cA ?_ _) | (with_reducible refine cN ?_ _) | (with_reducible refine cD ?_))); (case side2 => exact HC0_0.out); rintro e w43 ⟨rfl, hb⟩; refine ⟨_, rfl, ?_⟩; replace BK239 := aS (q01 (g := gb239) (o := .cells #[.slice A0_0 l0_0.length c0_0, .bool a0_1] 24 (0, 0)) (za BK239.out) hb); replace HB := aS (q02 (z6 HB.out GE239.out) hb); (try clear hb); (try clear hb2); (try clear hk); (try clear hi); obtain ⟨hczL_0, hczL_1, hfzL_0, hfzL_1⟩ := bk2 BK239.out))
        go_roundg k2
        case measure => have := HK1.out; have := HK2.out; omega
        case rel => exact ⟨(wrap64 (x47_2 + 1)), zi, H', ⟨by have := HK1.out; have := HK2.out; omega⟩, ⟨by (with_reducible repeat (first | refine kN ?_ _ | refine kD ?_ | refine kA ?_ _)); exact BK239.out⟩, ⟨by repeat (first | (with_reducible first | exact HB.out | apply bA | apply bN | apply bD | refine bS ?_ GE239.out) | exact HB.out)⟩⟩
       case n32 =>
        obtain rfl := Option.some.inj H
        go_wp2
        go_ret
        exact ⟨by first | rfl | (simp [q05, q04] <;> rfl) | (simp [*, q05, q04] <;> rfl), by repeat (first | (with_reducible first | exact HB.out | apply bA | apply bN | apply bD | refine bS ?_ GE239.out) | exact HB.out)⟩
    case n28 =>
     obtain rfl := Option.some.inj H
     go_wp2_with (first | ((with_reducible refine q08 (f := 101) rfl ?_); refine q0n (some 40) rfl rfl Tryd.func101 (by kernel_rfl) rfl #[.agg #[.slice A0_0 l0_0.length c0_0, .bool a0_1]] rfl zc ?_; (with_reducible refine (dom_kids.calls k1 _ _ l0_0 a0_1 t243 _ ?side1 ?side2 A27.out).mono ?_); (case side1 => repeat (first | exact (Kd.C_below HR0_0.out HB.out) | (with_reducible refine cA ?_ _) | (with_reducible refine cN ?_ _) | (with_reducible refine cD ?_))); (case side2 => exact HC0_0.out); rintro e w46 ⟨rfl, hb⟩; refine ⟨_, rfl, ?_⟩; replace BK239 := aS (q01 (g := gb239) (o := .cells #[.slice A0_0 l0_0.length c0_0, .bool a0_1] 24 (0, 0)) (za BK239.out) hb); replace HB := aS (q02 (z6 HB.out GE239.out) hb); (try clear hb); (try clear hb2); (try clear hk); (try clear hi)))
     go_ret
     exact ⟨by first | rfl | (simp [q05, q04] <;> rfl) | (simp [*, q05, q04] <;> rfl), by repeat (first | (with_reducible first | exact HB.out | apply bA | apply bN | apply bD | refine bS ?_ GE239.out) | exact HB.out)⟩
def slices_Index_int_int.l0 : Nat → List Int → Int → Int → Int → Option (Int)
 | 0, _, _, _, _ => none
 | k + 1, x0, x1, x7, x8 => if x8 < x7 then (if 0 ≤ x8 then (if x8 < (x0.length : Int) then (if x1 = (rd x0 x8) then (some x8) else (slices_Index_int_int.l0 k x0 x1 x7 (wrap64 (x8 + 1)))) else (none)) else (none)) else (some (-1))
def slices_Index_int_int.f (k : Nat) (l0 : List Int) (a1 : Int) : Option (Int) := slices_Index_int_int.l0 k l0 a1 (l0.length : Int) 0
theorem slices_Index_int_int.mono_l : ∀ k, (∀ y0 y1 y2 y3, LeO (slices_Index_int_int.l0 k y0 y1 y2 y3) (slices_Index_int_int.l0 (k + 1) y0 y1 y2 y3))
 | 0 => fun _ _ _ _ r h => by simp [slices_Index_int_int.l0] at h
 | k + 1 => by
  have ih0 := slices_Index_int_int.mono_l k
  ·intro y0 y1 y2 y3
   unfold slices_Index_int_int.l0
   repeat' first | with_reducible first | apply ih0 | exact LeO.refl _ | exact LeO.none _ | refine LeO.ite ?_ ?_ | refine LeO.bind ?_ (fun _ => ?_) | (first | apply ih0 | exact LeO.none _ | refine LeO.ite ?_ ?_ | refine LeO.bind ?_ (fun _ => ?_))
theorem slices_Index_int_int.mono : ∀ a0 a1 k, LeO (slices_Index_int_int.f k a0 a1) (slices_Index_int_int.f (k + 1) a0 a1) := by
 intro a0 a1 k
 have ih0 := slices_Index_int_int.mono_l k
 unfold slices_Index_int_int.f
 repeat' first | with_reducible first | apply ih0 | exact LeO.refl _ | exact LeO.none _ | refine LeO.ite ?_ ?_ | refine LeO.bind ?_ (fun _ => ?_) | (first | apply ih0 | exact LeO.none _ | refine LeO.ite ?_ ?_ | refine LeO.bind ?_ (fun _ => ?_))
set_option maxHeartbeats 8000000 in
set_option maxRecDepth 100000 in
theorem slices_Index_int_int.calls (k : Nat) (A0 : Option Addr) (c0 : Nat) (l0 : List Int) (a1 : Int) (r : Int) (w : World) (hr0 : Kd.C (Kd.int .i64) w A0 l0.length l0) (hc0 : l0.length ≤ c0) (h : slices_Index_int_int.f k l0 a1 = some r) :
 Calls Tryd.prog 77 #[.slice A0 l0.length c0, .int .i64 a1] w fun e w' => e = .returned (.int .i64 r) ∧ Drawn0 w w' := by
 have HR0 := aS hr0
 have HC0 := aS hc0
 clear hr0 hc0
 have H := h; clear h; unfold slices_Index_int_int.f at H
 have H' := aS H
 clear H
 go_enter Tryd.func77, Tryd.ntmps77
 go_wp2
 go_loopg [8] k (fun kq v8 w' => ∃ (x8_1 : Int), v8 = .int .i64 x8_1 ∧ Aside0 (slices_Index_int_int.l0 kq l0 a1 (l0.length : Int) x8_1 = some r) ∧ Aside0 (kq ≤ k) ∧ Drawn0 w w')
 case atStart => exact ⟨(0), zi, H', ⟨Nat.le_refl _⟩, by repeat (first | exact Drawn0.refl _ | apply Drawn0.step)⟩
 case round =>
  clear H'
  obtain ⟨x8_1, rfl, HA, HK1, ⟨m1, rfl⟩⟩ := hrel
  cases gk with
  | zero => exact absurd HA.out (by simp [slices_Index_int_int.l0])
  | succ k1 =>
   have H := HA.out
   clear HA
   simp only [slices_Index_int_int.l0] at H
   refine iT H ?p3 ?n3 <;> clear H
   case' p3 =>
    intro c3b0 H
    refine iLp H ?_; clear H; intro c4b0 H
    refine iTp H ?_; clear H; intro c5b0 H
    obtain ⟨ad245, e245, hx245_0, p245, q245⟩ := atIA HR0.out x8_1 zb zb
    cases e245
    refine iE H ?p6 ?n6 <;> clear H
   case' p6 => intro c6b0 c6b1 H
   case' n6 => intro c6 c6b0 c6b1 H
   case' n3 => intro c3b0 H
   case p6|n3 =>
    obtain rfl := Option.some.inj H
    go_wp2
    go_ret
    exact ⟨by first | rfl | (simp; done) | (simp [*]; done), by repeat (first | exact Drawn0.refl _ | apply Drawn0.step)⟩
   case n6 =>
    have H' := aS H
    clear H
    go_wp2
    go_roundg k1
    case measure => have := HK1.out; omega
    case rel => exact ⟨(wrap64 (x8_1 + 1)), zi, H', ⟨by have := HK1.out; omega⟩, by repeat (first | exact Drawn0.refl _ | apply Drawn0.step)⟩
end Go.Proofs.YthjnallbbhnndaaDoor.XSp
namespace Go.Proofs.YthjnallbbhnndaaDoor.Dm
open Go Go.RowKit Go.Proofs.YthjnallbbhnndaaDoor.XSp Go.Proofs.YthjnallbbhnndaaDoorW.PrintWords Go.Proofs.YthjnallbbhnndaaDoorW.PrintLast
def smallB (b : Int) : Bool := decide (97 ≤ b) && decide (b ≤ 122)
def signB (b : Int) : Bool := smallB b || (decide (48 ≤ b) && decide (b ≤ 57)) || decide (b = 45) || decide (b = 95) || decide (b = 58)
def firstB (el : Bool) (b : Int) : Bool := smallB b || (!el && (decide (b = 45) || decide (b = 95)))
def nameB (s : ByteArray) (el : Bool) : Bool := decide (1 ≤ s.size) && (decide (s.size ≤ 40) && ((bytesOf s).all signB && firstB el (bt s 0)))
theorem drop_bt (s : ByteArray) (i : Nat) (h : i < s.size) : (bytesOf s).drop i = bt s (i : Int) :: (bytesOf s).drop (i + 1) := by
  have hl : i < (bytesOf s).length := by rw [bytesOf_length]; exact h
  rw [List.drop_eq_getElem_cons hl]
  congr 1
  have := rd_bytesOf s (i : Int)
  rw [← this]
  simp [rd, List.getD, hl]
theorem j2_eq (k : Nat) (s : ByteArray) (el : Bool) (i b : Int) : clerestoryref1_domName.j2 (k + 1) s el i b (smallB b) = clerestoryref1_domName.j3 k s el i b (smallB b) (!signB b) := by
  rw [clerestoryref1_domName.j2]
  unfold signB
  cases hs : smallB b with
  | true => simp
  | false =>
    rw [if_neg (by decide)]
    by_cases h1 : b ≥ 48
    · rw [if_pos h1]
      by_cases h2 : b ≤ 57
      · rw [if_pos h2]; simp [h1, h2]
      · rw [if_neg h2]
        by_cases h3 : b = 45
        · rw [if_pos h3]; simp [h3]
        · rw [if_neg h3]
          by_cases h4 : b = 95
          · rw [if_pos h4]; simp [h4]
          · rw [if_neg h4]
            by_cases h5 : b = 58
            · simp [h5]
            · rw [show (b != 58) = true from by simp [h5]]; simp [h2, h3, h4, h5]
    · rw [if_neg h1]
      by_cases h3 : b = 45
      · rw [if_pos h3]; simp [h3]
      · rw [if_neg h3]
        by_cases h4 : b = 95
        · rw [if_pos h4]; simp [h4]
        · rw [if_neg h4]
          by_cases h5 : b = 58
          · simp [h5]
          · rw [show (b != 58) = true from by simp [h5]]; simp [h1, h3, h4, h5]
theorem l0_eq (k : Nat) (s : ByteArray) (el : Bool) (i : Nat) (h : i < s.size) : clerestoryref1_domName.l0 (k + 2) s el (i : Int) = clerestoryref1_domName.j3 k s el (i : Int) (bt s (i : Int)) (smallB (bt s (i : Int))) (!signB (bt s (i : Int))) := by
  rw [clerestoryref1_domName.l0, if_pos (by omega), if_pos (by omega), ← j2_eq]
  generalize bt s (i : Int) = b
  by_cases h1 : b ≥ 97
  · rw [if_pos h1, show decide (b ≤ 122) = smallB b from by unfold smallB; simp [h1]]
  · rw [if_neg h1, show false = smallB b from by unfold smallB; simp [h1]]
theorem refname_l0 (s : ByteArray) (el : Bool) (hs : s.size ≤ 1000) (d : Nat) : ∀ (i k : Nat), i + d = s.size → 3 * d < k → 1 ≤ i → clerestoryref1_domName.l0 k s el (i : Int) = some (((bytesOf s).drop i).all signB) := by
  induction d with
  | zero =>
    intro i k h hk _
    obtain ⟨k, rfl⟩ : ∃ q, k = q + 1 := ⟨k - 1, by omega⟩
    rw [clerestoryref1_domName.l0, if_neg (by omega), List.drop_eq_nil_of_le (by rw [bytesOf_length]; omega)]
    rfl
  | succ d ih =>
    intro i k h hk h1
    obtain ⟨k, rfl⟩ : ∃ q, k = q + 1 + 2 := ⟨k - 3, by omega⟩
    rw [l0_eq (k + 1) s el i (by omega), clerestoryref1_domName.j3, drop_bt s i (by omega), List.all_cons]
    cases hb : signB (bt s (i : Int)) with
    | false => rw [if_pos (by decide)]; rfl
    | true =>
      rw [if_neg (by decide), if_neg (by omega), show wrap64 ((i : Int) + 1) = ((i + 1 : Nat) : Int) from by unfold wrap64; omega, ih (i + 1) k (by omega) (by omega) (by omega)]
      rfl
theorem refname_eq (s : ByteArray) (el : Bool) (k : Nat) (hk : 130 < k) : clerestoryref1_domName.f k s el = some (nameB s el) := by
  obtain ⟨k, rfl⟩ : ∃ q, k = q + 1 + 2 + 1 := ⟨k - 4, by omega⟩
  unfold clerestoryref1_domName.f nameB
  by_cases h1 : s.size < 1
  · rw [if_pos (by omega), clerestoryref1_domName.j0, if_pos rfl]
    have : ¬ 1 ≤ s.size := by omega
    simp [this]
  · rw [if_neg (by omega), clerestoryref1_domName.j0]
    by_cases h2 : s.size ≤ 40
    · rw [if_neg (by simp; omega), show (0 : Int) = ((0 : Nat) : Int) from rfl, l0_eq (k + 1) s el 0 (by omega), clerestoryref1_domName.j3]
      have hd := drop_bt s 0 (by omega)
      rw [List.drop_zero] at hd
      rw [hd, List.all_cons, show decide (1 ≤ s.size) = true from decide_eq_true (by omega), show decide (s.size ≤ 40) = true from decide_eq_true h2]
      have hr := refname_l0 s el (by omega) (s.size - 1) 1 k (by omega) (by omega) (Nat.le_refl _)
      rw [show wrap64 (((0 : Nat) : Int) + 1) = ((1 : Nat) : Int) from by unfold wrap64; decide, hr]
      generalize ((bytesOf s).drop (0 + 1)) = t at hr ⊢
      generalize bt s ((0 : Nat) : Int) = b
      unfold firstB
      cases hb : signB b with
      | false => rw [if_pos (by decide)]; simp
      | true =>
        rw [if_neg (by decide), if_pos (by decide)]
        cases hsm : smallB b with
        | true => simp
        | false =>
          rw [if_neg (by decide)]
          cases el with
          | true => simp
          | false =>
            rw [if_neg (by decide)]
            by_cases h3 : b = 45
            · rw [if_pos h3]; simp [h3]
            · rw [if_neg h3]
              by_cases h4 : b = 95
              · rw [if_pos h4]; simp [h4]
              · rw [if_neg h4]; simp [h3, h4]
    · rw [if_pos (by simp; omega)]
      simp [h2]
def signsA : ByteArray := ⟨#[97, 98, 99, 100, 101, 102, 103, 104, 105, 106, 107, 108, 109, 110, 111, 112, 113, 114, 115, 116, 117, 118, 119, 120, 121, 122, 48, 49, 50, 51, 52, 53, 54, 55, 56, 57, 45, 95, 58]⟩
def firstA (el : Bool) : ByteArray := if el = true then signsA.extract 0 26 else signsA.extract 0 26 ++ ⟨#[45, 95]⟩
theorem first_all (el : Bool) : ∀ n : Fin 256, decide (0 ≤ Lib.indexByte (firstA el).data.toList (UInt8.ofNat n.val)) = firstB el (n.val : Int) := by
  cases el <;> decide +kernel
theorem sign_all : ∀ n : Fin 256, (signsA.data.toList).contains (UInt8.ofNat n.val) = signB (n.val : Int) := by decide +kernel
theorem first_eq (el : Bool) (b : Int) (h : 0 ≤ b ∧ b ≤ 255) : decide (0 ≤ Lib.indexByte (firstA el).data.toList (UInt8.ofNat b.toNat)) = firstB el b := by
  have := first_all el ⟨b.toNat, by omega⟩
  rw [show ((⟨b.toNat, by omega⟩ : Fin 256).val : Int) = b from by simp; omega] at this
  exact this
theorem sign_eq (c : UInt8) : (signsA.data.toList).contains c = signB (c.toNat : Int) := by
  have := sign_all ⟨c.toNat, c.toNat_lt⟩
  simpa using this
theorem dropWhile_nil {α : Type} (p : α → Bool) : ∀ l : List α, (l.dropWhile p = [] ↔ ∀ x ∈ l, p x = true)
  | [] => by simp
  | x :: t => by
    rw [List.dropWhile_cons]
    cases h : p x with
    | true => rw [if_pos rfl, dropWhile_nil p t]; simp [h]
    | false => rw [if_neg (by decide)]; simp [h]
theorem trim_nil (l cs : List UInt8) : Lib.trimS l cs = [] ↔ ∀ x ∈ l, cs.contains x = true := by
  unfold Lib.trimS Lib.trimLeftS Lib.trimRightS
  rw [dropWhile_nil]
  constructor
  · intro h x hx
    have e := List.takeWhile_append_dropWhile (p := fun y => cs.contains y) (l := l.reverse)
    have hx' : x ∈ l.reverse := List.mem_reverse.2 hx
    rw [← e] at hx'
    rcases List.mem_append.1 hx' with h1 | h1
    · exact List.all_eq_true.1 (List.all_takeWhile (p := fun y => cs.contains y) (l := l.reverse)) x h1
    · exact h x (List.mem_reverse.2 h1)
  · intro h x hx
    have h1 : x ∈ l.reverse := (List.dropWhile_sublist _).subset (List.mem_reverse.1 hx)
    exact h x (List.mem_reverse.1 h1)
theorem named_eq (s : ByteArray) (el : Bool) (hs : s.size ≤ 140737488355328) : dom_named.f s (firstA el) = some (nameB s el) := by
  unfold dom_named.f nameB
  by_cases h0 : s.toList = []
  · have : s.size = 0 := by
      rw [Lib.toList_data] at h0
      rw [← data_length, h0]; rfl
    have h2 : ¬ 1 ≤ s.size := by omega
    rw [if_pos h0]; simp [h2]
  · have hp : 1 ≤ s.size := by
      rw [Lib.toList_data] at h0
      have := List.length_pos_iff.2 h0
      rw [data_length] at this
      omega
    rw [if_neg h0]
    by_cases h1 : s.size ≤ 40
    · rw [if_pos (by omega), if_pos (by omega)]
      unfold strings_IndexByte.f strings_Trim.f
      simp only [Option.bind_some]
      have hf := first_eq el (bt s 0) (bt_range s 0)
      have ht : (((⟨(Lib.trimS s.data.toList signsA.data.toList).toArray⟩ : ByteArray).toList == ([] : List UInt8))) = (bytesOf s).all signB := by
        rw [Lib.toList_data, Bool.eq_iff_iff]
        simp only [beq_iff_eq]
        rw [trim_nil, List.all_eq_true]
        simp only [sign_eq]
        unfold bytesOf
        simp
      by_cases h2 : Lib.indexByte (firstA el).data.toList (UInt8.ofNat (bt s 0).toNat) ≥ 0
      · rw [if_pos h2, if_pos ⟨hs, by decide, by decide⟩]
        simp only [Option.bind_some]
        rw [decide_eq_true h2] at hf
        rw [← hf]
        have := ht
        unfold signsA at this
        rw [this]
        simp [hp, h1]
      · rw [if_neg h2]
        rw [decide_eq_false h2] at hf
        rw [← hf]
        simp
    · rw [if_neg (by omega)]; simp [h1]
theorem Name_eq (s : ByteArray) (hs : s.size ≤ 140737488355328) : dom_Name.f s = some (nameB s true) := by
  unfold dom_Name.f
  have := named_eq s true hs
  rw [show firstA true = (⟨#[97, 98, 99, 100, 101, 102, 103, 104, 105, 106, 107, 108, 109, 110, 111, 112, 113, 114, 115, 116, 117, 118, 119, 120, 121, 122, 48, 49, 50, 51, 52, 53, 54, 55, 56, 57, 45, 95, 58]⟩ : ByteArray).extract 0 26 from rfl] at this
  rw [if_pos (by decide), if_pos (by decide), this]
  rfl
theorem attrName_eq (s : ByteArray) (hs : s.size ≤ 140737488355328) : dom_attrName.f s = some (nameB s false) := by
  unfold dom_attrName.f
  have := named_eq s false hs
  rw [show firstA false = (⟨#[97, 98, 99, 100, 101, 102, 103, 104, 105, 106, 107, 108, 109, 110, 111, 112, 113, 114, 115, 116, 117, 118, 119, 120, 121, 122, 48, 49, 50, 51, 52, 53, 54, 55, 56, 57, 45, 95, 58]⟩ : ByteArray).extract 0 26 ++ (⟨#[45, 95]⟩ : ByteArray) from rfl] at this
  rw [if_pos (by decide), if_pos (by decide), if_pos (by decide), this]
  rfl
def hasA (l : List S122) (nm : ByteArray) : Bool := l.any (fun x => x.f0.toList == nm.toList)
theorem find_has (l : List S122) (nm : ByteArray) (hl : l.length ≤ 1000000) : ∃ r, dom_find.f l nm = some r ∧ decide (r ≥ 0) = hasA l nm := by
  unfold dom_find.f
  rw [if_pos (by omega)]
  exact ⟨_, rfl, Cl.idxOf_any _ l⟩
theorem dropA (l : List S122) (i : Nat) (h : i < l.length) : l.drop i = q0c l (i : Int) :: l.drop (i + 1) := by
  rw [List.drop_eq_getElem_cons h]
  congr 1
  simp [q0c, List.getD, h]
theorem rdA (l : List S122) (i : Nat) (h : i < l.length) : q0c l (i : Int) = l[i] := by simp [q0c, List.getD, h]
theorem attrOf_l0 (l : List S122) (nm : ByteArray) (hl : l.length ≤ 1000000) (d : Nat) : ∀ (i k : Nat), i + d = l.length → d < k → ∃ v, clerestoryref1_AttrOf.l0 k l nm (i : Int) = some (v, (l.drop i).any (fun x => x.f0.toList == nm.toList)) := by
  induction d with
  | zero =>
    intro i k h hk
    obtain ⟨k, rfl⟩ : ∃ q, k = q + 1 := ⟨k - 1, by omega⟩
    rw [clerestoryref1_AttrOf.l0, if_neg (by omega), List.drop_eq_nil_of_le (by omega)]
    exact ⟨_, rfl⟩
  | succ d ih =>
    intro i k h hk
    obtain ⟨k, rfl⟩ : ∃ q, k = q + 1 := ⟨k - 1, by omega⟩
    obtain ⟨v, hv⟩ := ih (i + 1) k (by omega) (by omega)
    rw [clerestoryref1_AttrOf.l0, if_pos (by omega), if_pos (by omega), show wrap64 ((i : Int) + 1) = ((i + 1 : Nat) : Int) from by unfold wrap64; omega, dropA l i (by omega), List.any_cons, hv]
    by_cases hn : (q0c l (i : Int)).f0.toList = nm.toList
    · rw [if_pos hn]; exact ⟨(q0c l (i : Int)).f1, by simp [hn]⟩
    · rw [if_neg hn]; exact ⟨v, by simp [hn]⟩
theorem attrOf_has (l : List S122) (nm : ByteArray) (hl : l.length ≤ 1000000) (k : Nat) (hk : l.length < k) : ∃ v, clerestoryref1_AttrOf.f k l nm = some (v, hasA l nm) := by
  obtain ⟨v, h⟩ := attrOf_l0 l nm hl l.length 0 k (by omega) hk
  exact ⟨v, h⟩
def errA (l : List S122) : Nat → Nat → Int
  | 0, _ => 0
  | d + 1, i => if nameB (q0c l (i : Int)).f0 false = true then (if 400 < (q0c l (i : Int)).f1.size then 2 else if hasA (l.take i) (q0c l (i : Int)).f0 = true then 3 else errA l d (i + 1)) else 3
theorem errA_succ (l : List S122) (d i : Nat) : errA l (d + 1) i = if nameB (q0c l (i : Int)).f0 false = true then (if 400 < (q0c l (i : Int)).f1.size then 2 else if hasA (l.take i) (q0c l (i : Int)).f0 = true then 3 else errA l d (i + 1)) else 3 := rfl
def smallA (l : List S122) : Prop := ∀ x ∈ l, x.f0.size ≤ 140737488355328
theorem attrs_l0 (l : List S122) (hl : l.length ≤ 1000000) (hs : smallA l) (d : Nat) : ∀ (i k : Nat), i + d = l.length → d < k → dom_attrs.l0 k l l (l.length : Int) (i : Int) = some (errA l d i) := by
  induction d with
  | zero =>
    intro i k h hk
    obtain ⟨k, rfl⟩ : ∃ q, k = q + 1 := ⟨k - 1, by omega⟩
    rw [dom_attrs.l0, if_neg (by omega)]
    rfl
  | succ d ih =>
    intro i k h hk
    obtain ⟨k, rfl⟩ : ∃ q, k = q + 1 := ⟨k - 1, by omega⟩
    have hm : q0c l (i : Int) ∈ l := by rw [rdA l i (by omega)]; exact List.getElem_mem _
    obtain ⟨r, hr1, hr2⟩ := find_has (l.take i) (q0c l (i : Int)).f0 (by rw [List.length_take]; omega)
    rw [dom_attrs.l0, if_pos (by omega), if_pos (by omega), if_pos (by omega), attrName_eq _ (hs _ hm), show wrap64 ((i : Int) + 1) = ((i + 1 : Nat) : Int) from by unfold wrap64; omega, ih (i + 1) k (by omega) (by omega), show ((i : Int)).toNat = i from rfl, hr1]
    simp only [Option.bind_some]
    rw [errA_succ]
    cases nameB (q0c l (i : Int)).f0 false with
    | false => rw [if_neg (by decide), if_neg (by decide)]
    | true =>
      rw [if_pos rfl, if_pos rfl]
      by_cases h4 : 400 < (q0c l (i : Int)).f1.size
      · rw [if_pos (by omega), if_pos h4]
      · rw [if_neg (by omega), if_neg h4, if_pos (by omega), ← hr2]
        by_cases h5 : r ≥ 0
        · rw [if_pos h5, if_pos (decide_eq_true h5)]
        · rw [if_neg h5, if_neg (by simpa using h5)]
theorem attrs_eq (l : List S122) (hs : smallA l) (k : Nat) (hk : 12 < k) : dom_attrs.f k l = some (if 12 < l.length then 2 else errA l l.length 0) := by
  unfold dom_attrs.f
  by_cases h : 12 < l.length
  · rw [if_pos (by omega), if_pos h]
  · rw [if_neg (by omega), if_neg h]
    exact attrs_l0 l (by omega) hs l.length 0 k (by omega) (by omega)
def bareB (x : S43) : Bool := (decide (x.f0 = 2) || decide (x.f0 = 5) || decide (x.f1.toList = [])) && ((decide (x.f0 = 2) || decide (x.f2.length = 0)) && ((decide (x.f0 = 3) || decide (x.f0 = 4) || decide (x.f3.toList = [])) && (decide (x.f0 = 1) || decide (x.f0 = 2) || decide (x.f5.length = 0))))
theorem bare_eq (x : S43) (h1 : 1 ≤ x.f0) (h5 : x.f0 ≤ 5) : dom_bare.f x.f0 x.f1 x.f2 x.f3 x.f4 x.f5 = some (bareB x) := by
  obtain ⟨kind, name, attrs, text, parent, kids⟩ := x
  simp only at h1 h5 ⊢
  have hk : kind = 1 ∨ kind = 2 ∨ kind = 3 ∨ kind = 4 ∨ kind = 5 := by omega
  unfold dom_bare.f dom_parent.f bareB
  by_cases hn : name.toList = [] <;> by_cases ha : attrs.length = 0 <;> by_cases ht : text.toList = [] <;> by_cases hd : kids.length = 0 <;> rcases hk with rfl | rfl | rfl | rfl | rfl <;> simp [hn, ha, ht, hd]
def nodeE (x : S43) : Int :=
  if x.f0 < 1 ∨ 5 < x.f0 ∨ bareB x = false then 7 else if x.f0 = 2 ∧ nameB x.f1 true = false then 3 else if 12 < x.f2.length then 2 else if errA x.f2 x.f2.length 0 ≠ 0 then errA x.f2 x.f2.length 0 else if 400 < x.f3.size ∨ 400 < x.f1.size then 2 else 0
theorem j1_eq (x : S43) (hs : smallA x.f2) (k : Nat) (hk : 13 < k) : dom_one.j1 k x.f0 x.f1 x.f2 x.f3 x.f4 x.f5 = some (if 12 < x.f2.length then 2 else if errA x.f2 x.f2.length 0 ≠ 0 then errA x.f2 x.f2.length 0 else if 400 < x.f3.size ∨ 400 < x.f1.size then 2 else 0) := by
  obtain ⟨k, rfl⟩ : ∃ q, k = q + 1 := ⟨k - 1, by omega⟩
  rw [dom_one.j1, attrs_eq x.f2 hs k (by omega)]
  simp only [Option.bind_some]
  by_cases h : 12 < x.f2.length
  · rw [if_pos h, if_pos h, if_neg (by decide)]
  · rw [if_neg h, if_neg h]
    by_cases h2 : errA x.f2 x.f2.length 0 = 0
    · rw [if_pos h2, if_neg (show ¬ errA x.f2 x.f2.length 0 ≠ 0 from fun hh => hh h2)]
      by_cases h3 : 400 < x.f3.size
      · rw [if_pos (by omega), if_pos (.inl h3)]
      · rw [if_neg (by omega)]
        by_cases h4 : 400 < x.f1.size
        · rw [if_pos (by omega), if_pos (.inr h4)]
        · rw [if_neg (by omega), if_neg (by omega)]
    · rw [if_neg h2, if_pos h2]
theorem one_eq (x : S43) (hs : smallA x.f2) (hn : x.f1.size ≤ 140737488355328) (k : Nat) (hk : 14 < k) : dom_one.f k x.f0 x.f1 x.f2 x.f3 x.f4 x.f5 = some (nodeE x) := by
  obtain ⟨k, rfl⟩ : ∃ q, k = q + 1 := ⟨k - 1, by omega⟩
  have hj : ∀ b : Bool, dom_one.j0 (k + 1) b x.f0 x.f1 x.f2 x.f3 x.f4 x.f5 = some (if b = true then 7 else if x.f0 = 2 ∧ nameB x.f1 true = false then 3 else if 12 < x.f2.length then 2 else if errA x.f2 x.f2.length 0 ≠ 0 then errA x.f2 x.f2.length 0 else if 400 < x.f3.size ∨ 400 < x.f1.size then 2 else 0) := by
    intro b
    have hj1 := j1_eq x hs k (by omega)
    generalize (if 12 < x.f2.length then (2 : Int) else if errA x.f2 x.f2.length 0 ≠ 0 then errA x.f2 x.f2.length 0 else if 400 < x.f3.size ∨ 400 < x.f1.size then 2 else 0) = tl at hj1 ⊢
    rw [dom_one.j0, hj1, Name_eq x.f1 hn]
    simp only [Option.bind_some]
    cases b <;> by_cases h2 : x.f0 = 2 <;> cases nameB x.f1 true <;> simp [h2]
  unfold dom_one.f nodeE
  by_cases h1 : x.f0 < 1
  · rw [if_pos h1, hj]; simp [h1]
  · rw [if_neg h1]
    by_cases h5 : x.f0 > 5
    · rw [if_pos h5, hj]; simp [h5]
    · rw [if_neg h5, bare_eq x (by omega) (by omega)]
      simp only [Option.bind_some]
      rw [hj]
      have h5' : ¬ 5 < x.f0 := h5
      cases bareB x <;> simp [h1, h5']
theorem rn_l0 (x : S43) (hl : x.f2.length ≤ 1000) (d : Nat) : ∀ (i k : Nat), i + d = x.f2.length → d + 150 + x.f2.length < k → clerestoryref1_NodeErr.l0 k (i : Int) x.f0 x.f1 x.f2 x.f3 x.f4 x.f5 = some (if errA x.f2 d i ≠ 0 then errA x.f2 d i else if 400 < x.f3.size ∨ 400 < x.f1.size then 2 else 0) := by
  induction d with
  | zero =>
    intro i k h hk
    obtain ⟨k, rfl⟩ : ∃ q, k = q + 1 := ⟨k - 1, by omega⟩
    rw [clerestoryref1_NodeErr.l0, if_neg (by omega)]
    by_cases h3 : 400 < x.f3.size
    · rw [if_pos (by omega)]; simp [errA, h3]
    · rw [if_neg (by omega)]
      by_cases h4 : 400 < x.f1.size
      · rw [if_pos (by omega)]; simp [errA, h3, h4]
      · rw [if_neg (by omega)]; simp [errA, h3, h4]
  | succ d ih =>
    intro i k h hk
    obtain ⟨k, rfl⟩ : ∃ q, k = q + 1 := ⟨k - 1, by omega⟩
    obtain ⟨v, hv⟩ := attrOf_has (x.f2.take i) (q0c x.f2 (i : Int)).f0 (by rw [List.length_take]; omega) k (by rw [List.length_take]; omega)
    have hi := ih (i + 1) k (by omega) (by omega)
    rw [errA_succ]
    generalize (if 400 < x.f3.size ∨ 400 < x.f1.size then (2 : Int) else 0) = tl at hi ⊢
    rw [clerestoryref1_NodeErr.l0, if_pos (by omega), if_pos (by omega), refname_eq _ false k (by omega), show wrap64 ((i : Int) + 1) = ((i + 1 : Nat) : Int) from by unfold wrap64; omega, hi, show ((i : Int)).toNat = i from rfl, hv]
    simp only [Option.bind_some]
    have h4 : ((q0c x.f2 (i : Int)).f1.size : Int) > 400 ↔ 400 < (q0c x.f2 (i : Int)).f1.size := by omega
    have h5 : (i : Int) ≤ (x.f2.length : Int) := by omega
    simp only [h4, h5, if_true]
    cases nameB (q0c x.f2 (i : Int)).f0 false <;> by_cases h6 : 400 < (q0c x.f2 (i : Int)).f1.size <;> cases hasA (x.f2.take i) (q0c x.f2 (i : Int)).f0 <;> simp [h6]
theorem rn_j1 (x : S43) (b : Bool) (k : Nat) (hk : 1200 < k) : clerestoryref1_NodeErr.j1 k b x.f0 x.f1 x.f2 x.f3 x.f4 x.f5 = some (if b = true then 3 else if 12 < x.f2.length then 2 else if errA x.f2 x.f2.length 0 ≠ 0 then errA x.f2 x.f2.length 0 else if 400 < x.f3.size ∨ 400 < x.f1.size then 2 else 0) := by
  obtain ⟨k, rfl⟩ : ∃ q, k = q + 1 := ⟨k - 1, by omega⟩
  rw [clerestoryref1_NodeErr.j1]
  cases b with
  | true => rfl
  | false =>
    by_cases h : 12 < x.f2.length
    · have h' : (x.f2.length : Int) > 12 := by omega
      simp [h, h']
    · have h' : ¬ (x.f2.length : Int) > 12 := by omega
      have := rn_l0 x (by omega) x.f2.length 0 k (by omega) (by omega)
      rw [if_neg (by decide), if_neg h', if_neg (by decide), if_neg h]
      exact this
theorem rn_j0 (x : S43) (b : Bool) (k : Nat) (hk : 1201 < k) : clerestoryref1_NodeErr.j0 k b x.f0 x.f1 x.f2 x.f3 x.f4 x.f5 = some (if b = true then 7 else if x.f0 = 2 ∧ nameB x.f1 true = false then 3 else if 12 < x.f2.length then 2 else if errA x.f2 x.f2.length 0 ≠ 0 then errA x.f2 x.f2.length 0 else if 400 < x.f3.size ∨ 400 < x.f1.size then 2 else 0) := by
  obtain ⟨k, rfl⟩ : ∃ q, k = q + 1 := ⟨k - 1, by omega⟩
  have hj := fun b => rn_j1 x b k (by omega)
  generalize (if 12 < x.f2.length then (2 : Int) else if errA x.f2 x.f2.length 0 ≠ 0 then errA x.f2 x.f2.length 0 else if 400 < x.f3.size ∨ 400 < x.f1.size then 2 else 0) = tl at hj ⊢
  rw [clerestoryref1_NodeErr.j0, refname_eq _ true k (by omega)]
  simp only [Option.bind_some, hj]
  cases b <;> by_cases h2 : x.f0 = 2 <;> cases nameB x.f1 true <;> simp [h2]
theorem nodeErr_eq (x : S43) (k : Nat) (hk : 1201 < k) : clerestoryref1_NodeErr.f k x.f0 x.f1 x.f2 x.f3 x.f4 x.f5 = some (nodeE x) := by
  have hj := fun b => rn_j0 x b k hk
  unfold nodeE
  by_cases h1 : x.f0 < 1
  · unfold clerestoryref1_NodeErr.f clerestoryref1_between.f
    rw [if_neg (by omega)]; simp [h1]
  · by_cases h5 : 5 < x.f0
    · unfold clerestoryref1_NodeErr.f clerestoryref1_between.f
      rw [if_pos (by omega)]
      have : ¬ x.f0 ≤ 5 := by omega
      simp [h5, this]
    · have e : clerestoryref1_NodeErr.f k x.f0 x.f1 x.f2 x.f3 x.f4 x.f5 = clerestoryref1_NodeErr.j0 k (!bareB x) x.f0 x.f1 x.f2 x.f3 x.f4 x.f5 := by
        clear hj
        obtain ⟨kind, name, attrs, text, parent, kids⟩ := x
        simp only at h1 h5 ⊢
        have hk : kind = 1 ∨ kind = 2 ∨ kind = 3 ∨ kind = 4 ∨ kind = 5 := by omega
        unfold clerestoryref1_NodeErr.f clerestoryref1_between.f bareB
        have ea : (attrs.length : Int) > 0 ↔ ¬ attrs.length = 0 := by omega
        have ed : (kids.length : Int) > 0 ↔ ¬ kids.length = 0 := by omega
        simp only [ea, ed]
        by_cases hn : name.toList = [] <;> by_cases ha : attrs.length = 0 <;> by_cases ht : text.toList = [] <;> by_cases hd : kids.length = 0 <;> rcases hk with rfl | rfl | rfl | rfl | rfl <;> simp [hn, ha, ht, hd]
      rw [e, hj]
      cases bareB x <;> simp [h1, h5]
def par (ns : List S43) (n : Int) : Int := (q00 ns n).f4
def InR (ns : List S43) : Prop := ∀ i : Int, 0 ≤ i → i < ns.length → par ns i < ns.length
def q1z (ns : List S43) : Nat → Int → Nat
  | 0, _ => 0
  | d + 1, n => if par ns n ≥ 0 then 1 + q1z ns d (par ns n) else 0
theorem up_l0 (ns : List S43) (q : Bool) (hl : ns.length ≤ 1000) (hr : InR ns) (d : Nat) : ∀ (many : Nat) (n : Int) (k : Nat), many + d = ns.length + 1 → 0 ≤ n → n < ns.length → d < k →
    dom_up.l0 k n (many : Int) ns q = some ((many + q1z ns d n : Nat) : Int) := by
  induction d with
  | zero =>
    intro many n k h h0 h1 hk
    obtain ⟨k, rfl⟩ : ∃ z, k = z + 1 := ⟨k - 1, by omega⟩
    rw [dom_up.l0, if_pos h0, if_pos h1]
    by_cases hp : (q00 ns n).f4 ≥ 0
    · rw [if_pos hp, if_neg (by omega)]; rfl
    · rw [if_neg hp]; rfl
  | succ d ih =>
    intro many n k h h0 h1 hk
    obtain ⟨k, rfl⟩ : ∃ z, k = z + 1 := ⟨k - 1, by omega⟩
    rw [dom_up.l0, if_pos h0, if_pos h1]
    have hrn := hr n h0 h1
    unfold q1z
    by_cases hp : par ns n ≥ 0
    · have hp' : (q00 ns n).f4 ≥ 0 := hp
      rw [if_pos hp', if_pos (by omega), if_pos hp, show wrap64 ((many : Int) + 1) = ((many + 1 : Nat) : Int) from by unfold wrap64; omega, show (q00 ns n).f4 = par ns n from rfl, ih (many + 1) (par ns n) k (by omega) hp hrn (by omega)]
      congr 2
      omega
    · have hp' : ¬ (q00 ns n).f4 ≥ 0 := hp
      rw [if_neg hp', if_neg hp]; rfl
theorem deep_l0 (ns : List S43) (q : Bool) (hl : ns.length ≤ 1000) (hr : InR ns) (d : Nat) : ∀ (many : Nat) (n : Int) (k : Nat), many + d = ns.length → 0 ≤ n → n < ns.length → d < k →
    clerestoryref1_Deep.l0 k n (many : Int) ns q = some (if ns.length < many + q1z ns (d + 1) n then -1 else ((many + q1z ns (d + 1) n : Nat) : Int)) := by
  induction d with
  | zero =>
    intro many n k h h0 h1 hk
    obtain ⟨k, rfl⟩ : ∃ z, k = z + 1 := ⟨k - 1, by omega⟩
    rw [clerestoryref1_Deep.l0, if_pos h0, if_pos h1, show wrap64 ((many : Int) + 1) = ((many + 1 : Nat) : Int) from by unfold wrap64; omega]
    have e : q1z ns (0 + 1) n = if par ns n ≥ 0 then 1 + 0 else 0 := rfl
    rw [e]
    by_cases hp : par ns n ≥ 0
    · have hp' : (q00 ns n).f4 ≥ 0 := hp
      rw [if_pos hp', if_pos (by omega), if_pos hp, if_pos (by omega)]
    · have hp' : ¬ (q00 ns n).f4 ≥ 0 := hp
      rw [if_neg hp', if_neg hp, if_neg (by omega)]; rfl
  | succ d ih =>
    intro many n k h h0 h1 hk
    obtain ⟨k, rfl⟩ : ∃ z, k = z + 1 := ⟨k - 1, by omega⟩
    have hrn := hr n h0 h1
    rw [clerestoryref1_Deep.l0, if_pos h0, if_pos h1, show wrap64 ((many : Int) + 1) = ((many + 1 : Nat) : Int) from by unfold wrap64; omega]
    have e : q1z ns (d + 1 + 1) n = if par ns n ≥ 0 then 1 + q1z ns (d + 1) (par ns n) else 0 := rfl
    rw [e]
    by_cases hp : par ns n ≥ 0
    · have hp' : (q00 ns n).f4 ≥ 0 := hp
      rw [if_pos hp', if_neg (by omega), if_pos hp, show (q00 ns n).f4 = par ns n from rfl, ih (many + 1) (par ns n) k (by omega) hp hrn (by omega), show many + 1 + q1z ns (d + 1) (par ns n) = many + (1 + q1z ns (d + 1) (par ns n)) by omega]
    · have hp' : ¬ (q00 ns n).f4 ≥ 0 := hp
      rw [if_neg hp', if_neg hp, if_neg (by omega)]; rfl
theorem up_eq (ns : List S43) (q : Bool) (hl : ns.length ≤ 1000) (hr : InR ns) (n : Int) (h0 : 0 ≤ n) (h1 : n < ns.length) (k : Nat) (hk : ns.length + 1 < k) : dom_up.f k ns q n = some ((q1z ns (ns.length + 1) n : Nat) : Int) := by
  have := up_l0 ns q hl hr (ns.length + 1) 0 n k (by omega) h0 h1 hk
  rw [Nat.zero_add] at this
  exact this
theorem deep_eq (ns : List S43) (q : Bool) (hl : ns.length ≤ 1000) (hr : InR ns) (n : Int) (h0 : 0 ≤ n) (h1 : n < ns.length) (k : Nat) (hk : ns.length < k) : clerestoryref1_Deep.f k ns q n = some (if ns.length < q1z ns (ns.length + 1) n then -1 else ((q1z ns (ns.length + 1) n : Nat) : Int)) := by
  have := deep_l0 ns q hl hr ns.length 0 n k (by omega) h0 h1 hk
  rw [Nat.zero_add] at this
  exact this
def hasK (l : List Int) (x : Int) : Bool := l.any (fun y => decide (y = x))
theorem dropK (o : List Int) (i : Nat) (h : i < o.length) : o.drop i = rd o (i : Int) :: o.drop (i + 1) := by
  rw [List.drop_eq_getElem_cons h]
  congr 1
  simp [rd, List.getD, h]
theorem takeK (o : List Int) (i : Nat) (h : i < o.length) : o.take (i + 1) = o.take i ++ [rd o (i : Int)] := by
  rw [List.take_succ_eq_append_getElem h]
  congr 2
  simp [rd, List.getD, h]
theorem place_l0 (o : List Int) (x : Int) (ho : o.length ≤ 4611686018427387904) (d : Nat) : ∀ (i k : Nat), i + d = o.length → d < k → ∃ r, clerestoryref1_placeIn.l0 k o x (i : Int) = some r ∧ decide (r ≥ 0) = (o.drop i).any (fun y => decide (y = x)) := by
  induction d with
  | zero =>
    intro i k h hk
    obtain ⟨k, rfl⟩ : ∃ q, k = q + 1 := ⟨k - 1, by omega⟩
    rw [clerestoryref1_placeIn.l0, if_neg (by omega), List.drop_eq_nil_of_le (by omega)]
    exact ⟨_, rfl, rfl⟩
  | succ d ih =>
    intro i k h hk
    obtain ⟨k, rfl⟩ : ∃ q, k = q + 1 := ⟨k - 1, by omega⟩
    obtain ⟨r, hi, hd⟩ := ih (i + 1) k (by omega) (by omega)
    rw [clerestoryref1_placeIn.l0, if_pos (by omega), if_pos (by omega), show wrap64 ((i : Int) + 1) = ((i + 1 : Nat) : Int) from by unfold wrap64; omega, hi, dropK o i (by omega), List.any_cons]
    by_cases hx : rd o (i : Int) = x
    · rw [if_pos hx]; exact ⟨_, rfl, by simp [hx]⟩
    · rw [if_neg hx]; exact ⟨r, rfl, by simpa [hx] using hd⟩
theorem place_has (o : List Int) (x : Int) (ho : o.length ≤ 4611686018427387904) (k : Nat) (hk : o.length < k) : ∃ r, clerestoryref1_placeIn.f k o x = some r ∧ decide (r ≥ 0) = hasK o x := by
  obtain ⟨r, h1, h2⟩ := place_l0 o x ho o.length 0 k (by omega) hk
  exact ⟨r, h1, by rw [h2, List.drop_zero]; rfl⟩
def kidL (ns : List S43) (n : Int) : List Int := (q00 ns n).f5
def q1g (ns : List S43) (i : Int) (pre : List Int) (c : Int) : Bool := decide (c < 0) || (decide (c ≥ ns.length) || (decide (par ns c ≠ i) || hasK pre c))
def kidsE (ns : List S43) (i : Int) : List Int → List Int → Int
  | _, [] => 0
  | pre, c :: t => if q1g ns i pre c = true then 3 else if i = 0 ∧ (q00 ns c).f0 = 3 then 7 else kidsE ns i (pre ++ [c]) t
theorem kidsE_cons (ns : List S43) (i : Int) (pre : List Int) (c : Int) (t : List Int) : kidsE ns i pre (c :: t) = if q1g ns i pre c = true then 3 else if i = 0 ∧ (q00 ns c).f0 = 3 then 7 else kidsE ns i (pre ++ [c]) t := rfl
theorem kidBad_range {ns : List S43} {i : Int} {pre : List Int} {c : Int} (h : ¬ q1g ns i pre c = true) : 0 ≤ c ∧ c < ns.length ∧ par ns c = i ∧ hasK pre c = false := by
  unfold q1g at h
  simp only [Bool.or_eq_true, decide_eq_true_eq, not_or, Decidable.not_not, Bool.not_eq_true] at h
  exact ⟨by omega, by omega, h.2.2.1, h.2.2.2⟩
def orE (a b : Int) : Int := if a ≠ 0 then a else b
theorem q1y (b : Int) : orE 0 b = b := by simp [orE]
theorem orE_ne {a : Int} (b : Int) (h : a ≠ 0) : orE a b = a := by simp [orE, h]
theorem w1 (i : Nat) (h : i ≤ 4611686018427387904) : wrap64 ((i : Int) + 1) = ((i + 1 : Nat) : Int) := by unfold wrap64; omega
theorem wm (n : Nat) (h : n ≤ 4611686018427387904) : wrap64 ((n : Int) - 1) = (n : Int) - 1 := by unfold wrap64; omega
theorem ref_j4 (ns : List S43) (q : Bool) (i p : Nat) (c : Int) (pre t : List Int) (hp : p ≤ 4611686018427387903) (R : Int) (k : Nat)
    (hi : clerestoryref1_DocErr.l2 k (ns.length : Int) (i : Int) ((p + 1 : Nat) : Int) ns q = some (orE (kidsE ns (i : Int) (pre ++ [c]) t) R)) :
    clerestoryref1_DocErr.j4 (k + 1) (ns.length : Int) (i : Int) (p : Int) c (q1g ns (i : Int) pre c) ns q = some (orE (kidsE ns (i : Int) pre (c :: t)) R) := by
  rw [clerestoryref1_DocErr.j4, kidsE_cons]
  by_cases hb : q1g ns (i : Int) pre c = true
  · rw [if_pos hb, if_pos hb]; rfl
  · rw [if_neg hb, if_neg hb]
    have hr := kidBad_range hb
    by_cases h0 : (i : Int) = 0
    · rw [if_pos h0, if_pos hr.1, if_pos hr.2.1]
      by_cases h3 : (q00 ns c).f0 = 3
      · rw [if_pos h3, if_pos ⟨h0, h3⟩]; rfl
      · rw [if_neg h3, if_neg (fun h => h3 h.2), w1 p (by omega), hi]
    · rw [if_neg h0, if_neg (fun h => h0 h.1), w1 p (by omega), hi]
theorem refkids (ns : List S43) (q : Bool) (hl : ns.length ≤ 1000) (i : Nat) (hi : i < ns.length) (ks : List Int) (hks : (q00 ns (i : Int)).f5 = ks) (hc : ks.length ≤ 4611686018427387900) (B : Nat) (hB : ks.length < B) (R : Int)
    (H : ∀ k, B ≤ k → clerestoryref1_DocErr.l1 k (ns.length : Int) ((i + 1 : Nat) : Int) ns q = some R) (d : Nat) : ∀ (p k : Nat), p + d = ks.length → 2 * d + B < k →
    clerestoryref1_DocErr.l2 k (ns.length : Int) (i : Int) (p : Int) ns q = some (orE (kidsE ns (i : Int) (ks.take p) (ks.drop p)) R) := by
  induction d with
  | zero =>
    intro p k h hk
    obtain ⟨k, rfl⟩ : ∃ z, k = z + 1 := ⟨k - 1, by omega⟩
    rw [clerestoryref1_DocErr.l2, hks, if_pos (by omega), if_pos (by omega), if_neg (by omega), w1 i (by omega), H k (by omega), List.drop_eq_nil_of_le (by omega)]
    rfl
  | succ d ih =>
    intro p k h hk
    obtain ⟨k, rfl⟩ : ∃ z, k = z + 2 := ⟨k - 2, by omega⟩
    have hlt : p < ks.length := by omega
    have hi2 := ih (p + 1) k (by omega) (by omega)
    rw [takeK ks p hlt] at hi2
    obtain ⟨r, hr1, hr2⟩ := place_has (ks.take p) (rd ks (p : Int)) (by rw [List.length_take]; omega) (k + 1) (by rw [List.length_take]; omega)
    rw [clerestoryref1_DocErr.l2, hks, if_pos (by omega), if_pos (by omega), if_pos (by omega), if_pos (by omega), dropK ks p hlt, show ((p : Nat) : Int).toNat = p from rfl]
    obtain ⟨c, hcc⟩ : ∃ c, rd ks (p : Int) = c := ⟨_, rfl⟩
    rw [hcc] at hi2 hr1 ⊢
    rw [hcc] at hr2
    have hj : ∀ b, b = q1g ns (i : Int) (ks.take p) c → clerestoryref1_DocErr.j4 (k + 1) (ns.length : Int) (i : Int) (p : Int) c b ns q = some (orE (kidsE ns (i : Int) (ks.take p) (c :: ks.drop (p + 1))) R) := by
      rintro b rfl
      exact ref_j4 ns q i p c _ _ (by omega) R k hi2
    unfold clerestoryref1_between.f
    rw [wm ns.length (by omega)]
    by_cases c0 : c ≥ 0
    · rw [if_pos c0, Option.bind_some]
      by_cases c1 : c < (ns.length : Int)
      · rw [if_pos (decide_eq_true (by omega)), if_pos c0, if_pos c1]
        by_cases c2 : (q00 ns c).f4 = (i : Int)
        · rw [if_pos c2, if_pos (by omega), hr1, Option.bind_some]
          refine hj _ ?_
          rw [hr2]
          unfold q1g par
          rw [decide_eq_false (by omega), decide_eq_false (by omega), decide_eq_false (by simpa using c2)]
          simp
        · rw [if_neg c2]
          refine hj _ ?_
          unfold q1g par
          rw [decide_eq_true (p := (q00 ns c).f4 ≠ (i : Int)) c2]
          simp
      · rw [if_neg (by rw [decide_eq_false (by omega)]; exact Bool.false_ne_true)]
        refine hj _ ?_
        unfold q1g
        rw [decide_eq_true (p := c ≥ (ns.length : Int)) (by omega)]
        simp
    · rw [if_neg c0, Option.bind_some, if_neg Bool.false_ne_true]
      refine hj _ ?_
      unfold q1g
      rw [decide_eq_true (p := c < 0) (by omega)]
      simp
def kidsL (ns : List S43) : Nat → Nat → Int
  | 0, _ => 0
  | d + 1, i => orE (kidsE ns (i : Int) [] (kidL ns (i : Int))) (kidsL ns d (i + 1))
def q1i (ns : List S43) (i : Int) : Bool := decide (par ns i ≠ -1) && !(decide (0 ≤ par ns i) && (decide (par ns i < ns.length) && hasK (kidL ns (par ns i)) i))
def q1s (ns : List S43) : Nat → Nat → Int
  | 0, _ => if par ns 0 = -1 then 0 else 3
  | d + 1, i => if q1i ns (i : Int) = true then 3 else q1s ns d (i + 1)
def KidsLe (ns : List S43) (M : Nat) : Prop := ∀ i : Int, (kidL ns i).length ≤ M
theorem ref_l1 (ns : List S43) (q : Bool) (hl : ns.length ≤ 1000) (M : Nat) (hM : M ≤ 4611686018427387900) (hk : KidsLe ns M) (B : Nat) (hB : M < B) (R : Int)
    (H : ∀ k, B ≤ k → clerestoryref1_DocErr.l3 k (ns.length : Int) 0 ns q = some R) (d : Nat) : ∀ (i k : Nat), i + d = ns.length → (2 * M + 3) * d + B < k →
    clerestoryref1_DocErr.l1 k (ns.length : Int) (i : Int) ns q = some (orE (kidsL ns d i) R) := by
  induction d with
  | zero =>
    intro i k h hk
    obtain ⟨k, rfl⟩ : ∃ z, k = z + 1 := ⟨k - 1, by omega⟩
    rw [clerestoryref1_DocErr.l1, if_neg (by omega), H k (by omega)]
    rfl
  | succ d ih =>
    intro i k h hk'
    obtain ⟨k, rfl⟩ : ∃ z, k = z + 1 := ⟨k - 1, by omega⟩
    have e : (2 * M + 3) * (d + 1) = (2 * M + 3) * d + (2 * M + 3) := Nat.mul_succ _ _
    have hki := hk (i : Int)
    rw [clerestoryref1_DocErr.l1, if_pos (by omega)]
    have hr := refkids ns q hl i (by omega) (kidL ns (i : Int)) rfl (by omega) ((2 * M + 3) * d + B + 1) (by omega) (orE (kidsL ns d (i + 1)) R) (fun k hk => ih (i + 1) k (by omega) (by omega)) (kidL ns (i : Int)).length 0 k (by omega) (by omega)
    rw [List.take_zero, List.drop_zero] at hr
    rw [show ((0 : Nat) : Int) = 0 from rfl] at hr
    rw [hr]
    rw [show kidsL ns (d + 1) i = orE (kidsE ns (i : Int) [] (kidL ns (i : Int))) (kidsL ns d (i + 1)) from rfl]
    by_cases hz : kidsE ns (i : Int) [] (kidL ns (i : Int)) = 0
    · simp only [hz, q1y]
    · rw [orE_ne _ hz, orE_ne _ hz, orE_ne _ hz]
theorem ref_l3 (ns : List S43) (q : Bool) (hl : ns.length ≤ 1000) (h1 : 0 < ns.length) (M : Nat) (hM : M ≤ 4611686018427387900) (hk : KidsLe ns M) (B : Nat) (hB : M < B) (R : Int)
    (H : q1s ns ns.length 0 = 0 → ∀ k, B ≤ k → clerestoryref1_DocErr.l4 k (ns.length : Int) 0 ns q = some R) (d : Nat) : ∀ (i k : Nat), i + d = ns.length → q1s ns d i = q1s ns ns.length 0 → d + B < k →
    clerestoryref1_DocErr.l3 k (ns.length : Int) (i : Int) ns q = some (orE (q1s ns d i) R) := by
  induction d with
  | zero =>
    intro i k h hp hk
    obtain ⟨k, rfl⟩ : ∃ z, k = z + 1 := ⟨k - 1, by omega⟩
    rw [clerestoryref1_DocErr.l3, if_neg (by omega), if_pos (by omega)]
    by_cases c : (q00 ns 0).f4 = -1
    · have e : q1s ns 0 i = 0 := by unfold q1s par; rw [if_pos c]
      rw [if_pos c, e, q1y]
      exact H (by rw [← hp, e]) k (by omega)
    · have e : q1s ns 0 i = 3 := by unfold q1s par; rw [if_neg c]
      rw [if_neg c, e]
      rfl
  | succ d ih =>
    intro i k h hp hk'
    obtain ⟨k, rfl⟩ : ∃ z, k = z + 1 := ⟨k - 1, by omega⟩
    have e0 : q1s ns (d + 1) i = if q1i ns (i : Int) = true then 3 else q1s ns d (i + 1) := rfl
    rw [clerestoryref1_DocErr.l3, if_pos (by omega), if_pos (by omega), if_pos (by omega), w1 i (by omega), wm ns.length (by omega)]
    have good : q1i ns (i : Int) = false → clerestoryref1_DocErr.l3 k (ns.length : Int) ((i + 1 : Nat) : Int) ns q = some (orE (q1s ns (d + 1) i) R) := by
      intro hb
      rw [e0, if_neg (by rw [hb]; exact Bool.false_ne_true)] at hp ⊢
      exact ih (i + 1) k (by omega) hp (by omega)
    have bad : q1i ns (i : Int) = true → some (3 : Int) = some (orE (q1s ns (d + 1) i) R) := by
      intro hb
      rw [e0, if_pos hb]
      rfl
    show (if par ns (i : Int) = -1 then _ else _) = _
    by_cases c : par ns (i : Int) = -1
    · rw [if_pos c]
      exact good (by unfold q1i; rw [c]; rfl)
    · rw [if_neg c]
      unfold clerestoryref1_between.f
      show ((if par ns (i : Int) ≥ 0 then some (decide (par ns (i : Int) ≤ (ns.length : Int) - 1)) else some false).bind fun t143 => (if t143 = true then (if 0 ≤ par ns (i : Int) then (if par ns (i : Int) < (ns.length : Int) then ((clerestoryref1_placeIn.f k (kidL ns (par ns (i : Int))) (i : Int)).bind fun t145 => (if t145 < 0 then (some 3) else (clerestoryref1_DocErr.l3 k (ns.length : Int) ((i + 1 : Nat) : Int) ns q))) else (none)) else (none)) else (some 3))) = _
      by_cases c0 : par ns (i : Int) ≥ 0
      · rw [if_pos c0, Option.bind_some]
        by_cases c1 : par ns (i : Int) < (ns.length : Int)
        · rw [if_pos (decide_eq_true (by omega)), if_pos c0, if_pos c1]
          have hki := hk (par ns (i : Int))
          obtain ⟨r, hr1, hr2⟩ := place_has (kidL ns (par ns (i : Int))) (i : Int) (by omega) k (by omega)
          rw [hr1, Option.bind_some]
          have hpb : q1i ns (i : Int) = !(hasK (kidL ns (par ns (i : Int))) (i : Int)) := by
            unfold q1i
            rw [decide_eq_true c, decide_eq_true (p := 0 ≤ par ns (i : Int)) c0, decide_eq_true c1]
            simp
          by_cases c3 : r < 0
          · rw [if_pos c3]
            exact bad (by rw [hpb, ← hr2, decide_eq_false (by omega)]; rfl)
          · rw [if_neg c3]
            exact good (by rw [hpb, ← hr2, decide_eq_true (by omega)]; rfl)
        · rw [if_neg (by rw [decide_eq_false (by omega)]; exact Bool.false_ne_true)]
          exact bad (by unfold q1i; rw [decide_eq_true c, decide_eq_false c1]; simp)
      · rw [if_neg c0, Option.bind_some, if_neg Bool.false_ne_true]
        exact bad (by unfold q1i; rw [decide_eq_true c, decide_eq_false (p := 0 ≤ par ns (i : Int)) c0]; simp)
theorem seen_set (S : List Bool) (c x : Int) (hc : 0 ≤ c) (hc' : c < S.length) (hx : 0 ≤ x) : (rdOf false (S.set c.toNat true) x = true) ↔ (x = c ∨ rdOf false S x = true) := by
  unfold rdOf
  simp only [List.getD_eq_getElem?_getD, List.getElem?_set]
  by_cases h : x = c
  · subst h
    simp [show x.toNat < S.length by omega]
  · rw [if_neg (by omega)]
    simp [h]
theorem hasK_snoc (l : List Int) (c x : Int) : hasK (l ++ [c]) x = true ↔ (x = c ∨ hasK l x = true) := by
  unfold hasK
  simp only [List.any_append, List.any_cons, List.any_nil, Bool.or_false, Bool.or_eq_true, decide_eq_true_eq]
  constructor
  · rintro (h | h)
    · exact .inr h
    · exact .inl h.symm
  · rintro (h | h)
    · exact .inr h.symm
    · exact .inl h
def Ahead (ns : List S43) (i : Nat) : Prop := ∀ j : Nat, j < i → ∀ c, hasK (kidL ns (j : Int)) c = true → 0 ≤ c ∧ c < ns.length ∧ par ns c = (j : Int)
def Seen (ns : List S43) (S : List Bool) (i : Nat) (pre : List Int) : Prop := S.length = ns.length ∧ ∀ c : Int, 0 ≤ c → c < ns.length → (rdOf false S c = true ↔ ((∃ j : Nat, j < i ∧ hasK (kidL ns (j : Int)) c = true) ∨ hasK pre c = true))
theorem seen_same {ns : List S43} {S : List Bool} {i : Nat} {pre : List Int} (hs : Seen ns S i pre) (ha : Ahead ns i) {c : Int} (h0 : 0 ≤ c) (h1 : c < ns.length) (hp : par ns c = (i : Int)) : rdOf false S c = hasK pre c := by
  have h := hs.2 c h0 h1
  cases hb : hasK pre c
  · cases hr : rdOf false S c
    · rfl
    · exfalso
      rcases h.1 hr with ⟨j, hj, hk⟩ | hk
      · have := (ha j hj c hk).2.2
        omega
      · rw [hb] at hk
        cases hk
  · exact h.2 (.inr hb)
theorem kidsE_ok {ns : List S43} {i : Int} : ∀ {l pre : List Int}, kidsE ns i pre l = 0 → ∀ c ∈ l, 0 ≤ c ∧ c < ns.length ∧ par ns c = i
  | [], _, _, c, hc => by simp at hc
  | x :: t, pre, h, c, hc => by
    rw [kidsE_cons] at h
    by_cases hb : q1g ns i pre x = true
    · rw [if_pos hb] at h; cases h
    · rw [if_neg hb] at h
      have hr := kidBad_range hb
      by_cases h7 : i = 0 ∧ (q00 ns x).f0 = 3
      · rw [if_pos h7] at h; cases h
      · rw [if_neg h7] at h
        rcases List.mem_cons.1 hc with rfl | hc
        · exact ⟨hr.1, hr.2.1, hr.2.2.1⟩
        · exact kidsE_ok h c hc
theorem prog_j2 (ns : List S43) (q : Bool) (i p : Nat) (c : Int) (pre t ks : List Int) (S : List Bool) (hS : S.length = ns.length) (len : Int) (hp : p ≤ 4611686018427387903) (R : Int) (k : Nat)
    (hi : ¬ q1g ns (i : Int) pre c = true → ¬ ((i : Int) = 0 ∧ (q00 ns c).f0 = 3) → dom_kids.l1 k (S.set c.toNat true) (i : Int) ns (ns.length : Int) (i : Int) ks len ((p + 1 : Nat) : Int) ns q = some (orE (kidsE ns (i : Int) (pre ++ [c]) t) R)) :
    dom_kids.j2 (k + 1) S (i : Int) c ns (ns.length : Int) (i : Int) ks len (p : Int) (q1g ns (i : Int) pre c) ns q = some (orE (kidsE ns (i : Int) pre (c :: t)) R) := by
  rw [dom_kids.j2, kidsE_cons]
  by_cases hb : q1g ns (i : Int) pre c = true
  · rw [if_pos hb, if_pos hb]; rfl
  · rw [if_neg hb, if_neg hb]
    have hr := kidBad_range hb
    by_cases h0 : (i : Int) = 0
    · rw [if_pos h0, if_pos hr.1, if_pos hr.2.1]
      by_cases h3 : (q00 ns c).f0 = 3
      · rw [if_pos h3, if_pos ⟨h0, h3⟩]; rfl
      · rw [if_neg h3, if_pos (by rw [hS]; exact hr.2.1), if_neg (fun h => h3 h.2), w1 p (by omega), hi hb (fun h => h3 h.2)]
    · rw [if_neg h0, if_pos hr.1, if_pos (by rw [hS]; exact hr.2.1), if_neg (fun h => h0 h.1), w1 p (by omega), hi hb (fun h => h0 h.1)]
theorem prog_l1 (ns : List S43) (q : Bool) (hl : ns.length ≤ 1000) (i : Nat) (hi : i < ns.length) (ha : Ahead ns i) (ks : List Int) (hks : kidL ns (i : Int) = ks) (hc : ks.length ≤ 4611686018427387900) (B : Nat) (R : Int)
    (H : kidsE ns (i : Int) [] ks = 0 → ∀ S, Seen ns S (i + 1) [] → ∀ k, B ≤ k → dom_kids.l0 k S ns (ns.length : Int) ((i + 1 : Nat) : Int) ns q = some R) (d : Nat) : ∀ (p k : Nat) (S : List Bool), p + d = ks.length → Seen ns S i (ks.take p) →
    kidsE ns (i : Int) (ks.take p) (ks.drop p) = kidsE ns (i : Int) [] ks → 2 * d + B < k →
    dom_kids.l1 k S (i : Int) ns (ns.length : Int) (i : Int) ks (ks.length : Int) (p : Int) ns q = some (orE (kidsE ns (i : Int) (ks.take p) (ks.drop p)) R) := by
  induction d with
  | zero =>
    intro p k S h hs he hk
    obtain ⟨k, rfl⟩ : ∃ z, k = z + 1 := ⟨k - 1, by omega⟩
    rw [List.drop_eq_nil_of_le (by omega)] at he
    have he0 : kidsE ns (i : Int) [] ks = 0 := he.symm
    rw [List.take_of_length_le (by omega)] at hs
    rw [dom_kids.l1, if_neg (by omega), w1 i (by omega), List.drop_eq_nil_of_le (by omega)]
    refine (H he0 S ⟨hs.1, fun c h0 h1 => (hs.2 c h0 h1).trans ⟨?_, ?_⟩⟩ k (by omega)).trans rfl
    · rintro (⟨j, hj, hb⟩ | hb)
      · exact .inl ⟨j, by omega, hb⟩
      · exact .inl ⟨i, by omega, by rw [hks]; exact hb⟩
    · rintro (⟨j, hj, hb⟩ | hb)
      · by_cases e : j = i
        · subst e
          rw [hks] at hb
          exact .inr hb
        · exact .inl ⟨j, by omega, hb⟩
      · cases hb
  | succ d ih =>
    intro p k S h hs he hk
    obtain ⟨k, rfl⟩ : ∃ z, k = z + 2 := ⟨k - 2, by omega⟩
    have hlt : p < ks.length := by omega
    rw [dom_kids.l1, if_pos (by omega), if_pos (by omega), if_pos (by omega), dropK ks p hlt]
    rw [dropK ks p hlt] at he
    have ih' := ih (p + 1) k
    rw [takeK ks p hlt] at ih'
    obtain ⟨c, hcc⟩ : ∃ c, rd ks (p : Int) = c := ⟨_, rfl⟩
    rw [hcc] at ih' he ⊢
    have hj : ∀ b, b = q1g ns (i : Int) (ks.take p) c → dom_kids.j2 (k + 1) S (i : Int) c ns (ns.length : Int) (i : Int) ks (ks.length : Int) (p : Int) b ns q = some (orE (kidsE ns (i : Int) (ks.take p) (c :: ks.drop (p + 1))) R) := by
      rintro b rfl
      refine prog_j2 ns q i p c _ _ ks S hs.1 _ (by omega) R k fun hb h7 => ?_
      have hr := kidBad_range hb
      refine ih' (S.set c.toNat true) (by omega) ⟨by rw [List.length_set]; exact hs.1, fun x h0 h1 => ?_⟩ ?_ (by omega)
      · rw [seen_set S c x hr.1 (by rw [hs.1]; exact hr.2.1) h0, hs.2 x h0 h1, hasK_snoc]
        constructor
        · rintro (hx | hx | hx)
          · exact .inr (.inl hx)
          · exact .inl hx
          · exact .inr (.inr hx)
        · rintro (hx | hx | hx)
          · exact .inr (.inl hx)
          · exact .inl hx
          · exact .inr (.inr hx)
      · rw [kidsE_cons, if_neg hb, if_neg h7] at he
        exact he
    by_cases c0 : c < 0
    · rw [if_pos c0]
      refine hj _ ?_
      unfold q1g
      rw [decide_eq_true c0]
      simp
    rw [if_neg c0]
    by_cases c1 : c ≥ (ns.length : Int)
    · rw [if_pos (by rw [hs.1]; exact c1)]
      refine hj _ ?_
      unfold q1g
      rw [decide_eq_true c1]
      simp
    rw [if_neg (by rw [hs.1]; exact c1), if_pos (by omega), if_pos (by omega)]
    by_cases c2 : (q00 ns c).f4 = (i : Int)
    · rw [if_pos c2, if_pos (by rw [hs.1]; omega)]
      refine hj _ ?_
      rw [seen_same hs ha (by omega) (by omega) c2]
      unfold q1g par
      rw [decide_eq_false c0, decide_eq_false c1, decide_eq_false (by simpa using c2)]
      simp
    · rw [if_neg c2]
      refine hj _ ?_
      unfold q1g par
      rw [decide_eq_true (p := (q00 ns c).f4 ≠ (i : Int)) c2]
      simp
theorem prog_l2 (ns : List S43) (q : Bool) (hl : ns.length ≤ 1000) (h1 : 0 < ns.length) (ha : Ahead ns ns.length) (S : List Bool) (hs : Seen ns S ns.length []) (d : Nat) : ∀ (i k : Nat), i + d = ns.length → d < k →
    dom_kids.l2 k S ns (ns.length : Int) (i : Int) ns q = some (q1s ns d i) := by
  induction d with
  | zero =>
    intro i k h hk
    obtain ⟨k, rfl⟩ : ∃ z, k = z + 1 := ⟨k - 1, by omega⟩
    rw [dom_kids.l2, if_neg (by omega), if_pos (by omega)]
    unfold q1s par
    split <;> rfl
  | succ d ih =>
    intro i k h hk
    obtain ⟨k, rfl⟩ : ∃ z, k = z + 1 := ⟨k - 1, by omega⟩
    rw [dom_kids.l2, if_pos (by omega), if_pos (by omega), if_pos (by omega), w1 i (by omega), ih (i + 1) k (by omega) (by omega)]
    rw [show q1s ns (d + 1) i = if q1i ns (i : Int) = true then 3 else q1s ns d (i + 1) from rfl]
    show (if par ns (i : Int) = -1 then _ else _) = _
    by_cases c : par ns (i : Int) = -1
    · rw [if_pos c, if_neg (by unfold q1i; rw [c]; simp)]
    · rw [if_neg c, if_pos (by rw [hs.1]; omega)]
      have hh := hs.2 (i : Int) (by omega) (by omega)
      by_cases hr : rdOf false S (i : Int) = true
      · rw [if_pos hr]
        rcases hh.1 hr with ⟨j, hj, hk⟩ | hk
        · have hp := (ha j hj (i : Int) hk).2.2
          rw [if_neg]
          unfold q1i
          rw [hp, hk, decide_eq_true (p := 0 ≤ ((j : Nat) : Int)) (by omega), decide_eq_true (p := ((j : Nat) : Int) < (ns.length : Int)) (by omega)]
          simp
        · cases hk
      · rw [if_neg hr, if_pos]
        unfold q1i
        rw [decide_eq_true c, Bool.true_and]
        by_cases c0 : 0 ≤ par ns (i : Int)
        · by_cases c1 : par ns (i : Int) < (ns.length : Int)
          · cases hb : hasK (kidL ns (par ns (i : Int))) (i : Int)
            · simp
            · exfalso
              refine hr (hh.2 (.inl ⟨(par ns (i : Int)).toNat, by omega, ?_⟩))
              rw [show (((par ns (i : Int)).toNat : Nat) : Int) = par ns (i : Int) by omega]
              exact hb
          · rw [decide_eq_false c1]; simp
        · rw [decide_eq_false c0]; simp
theorem prog_l0 (ns : List S43) (q : Bool) (hl : ns.length ≤ 1000) (h1 : 0 < ns.length) (M : Nat) (hM : M ≤ 4611686018427387900) (hk : KidsLe ns M) (d : Nat) : ∀ (i k : Nat) (S : List Bool), i + d = ns.length → Seen ns S i [] → Ahead ns i → (2 * M + 3) * d + ns.length + 1 < k →
    dom_kids.l0 k S ns (ns.length : Int) (i : Int) ns q = some (orE (kidsL ns d i) (q1s ns ns.length 0)) := by
  induction d with
  | zero =>
    intro i k S h hs ha hk
    obtain ⟨k, rfl⟩ : ∃ z, k = z + 1 := ⟨k - 1, by omega⟩
    obtain rfl : i = ns.length := by omega
    rw [dom_kids.l0, if_neg (by omega)]
    exact prog_l2 ns q hl h1 ha S hs ns.length 0 k (by omega) (by omega)
  | succ d ih =>
    intro i k S h hs ha hk'
    obtain ⟨k, rfl⟩ : ∃ z, k = z + 1 := ⟨k - 1, by omega⟩
    have e : (2 * M + 3) * (d + 1) = (2 * M + 3) * d + (2 * M + 3) := Nat.mul_succ _ _
    have hki := hk (i : Int)
    rw [dom_kids.l0, if_pos (by omega), if_pos (by omega), if_pos (by omega)]
    have hr := prog_l1 ns q hl i (by omega) ha (kidL ns (i : Int)) rfl (by omega) ((2 * M + 3) * d + ns.length + 2) (orE (kidsL ns d (i + 1)) (q1s ns ns.length 0)) (fun he S hs k hk => ih (i + 1) k S (by omega) hs (fun j hj c hc => by
        by_cases e : j = i
        · subst e
          unfold hasK at hc
          obtain ⟨y, hy, hyc⟩ := List.any_eq_true.1 hc
          obtain rfl := of_decide_eq_true hyc
          exact kidsE_ok he y hy
        · exact ha j (by omega) c hc) (by omega)) (kidL ns (i : Int)).length 0 k S (by omega) hs rfl (by omega)
    rw [List.take_zero, List.drop_zero, show ((0 : Nat) : Int) = 0 from rfl] at hr
    refine hr.trans ?_
    rw [show kidsL ns (d + 1) i = orE (kidsE ns (i : Int) [] (kidL ns (i : Int))) (kidsL ns d (i + 1)) from rfl]
    by_cases hz : kidsE ns (i : Int) [] (kidL ns (i : Int)) = 0
    · simp only [hz, q1y]
    · rw [orE_ne _ hz, orE_ne _ hz, orE_ne _ hz]
def kidsAll (ns : List S43) : Int := orE (kidsL ns ns.length 0) (q1s ns ns.length 0)
theorem kids_eq (ns : List S43) (q : Bool) (hl : ns.length ≤ 1000) (h1 : 0 < ns.length) (M : Nat) (hM : M ≤ 4611686018427387900) (hk : KidsLe ns M) (k : Nat) (hk' : (2 * M + 3) * ns.length + ns.length + 1 < k) :
    dom_kids.f k ns q = some (kidsAll ns) := by
  unfold dom_kids.f
  rw [if_pos (by omega), if_pos (by omega)]
  refine (prog_l0 ns q hl h1 M hM hk ns.length 0 k _ (by omega) ⟨by simp, fun c h0 h1 => ?_⟩ (fun j hj => by omega) hk').trans rfl
  have e : rdOf false (List.replicate ((ns.length : Int) : Int).toNat false) c = false := by
    unfold rdOf
    simp [List.getD_eq_getElem?_getD, List.getElem?_replicate]
    split <;> rfl
  rw [e]
  constructor
  · intro h; cases h
  · rintro (⟨j, hj, _⟩ | h)
    · omega
    · cases h
def q1r (ns : List S43) (i : Nat) : Bool := decide ((q00 ns (i : Int)).f0 = 1) != decide (i = 0)
def nodesE (ns : List S43) : Nat → Nat → Int
  | 0, _ => 0
  | d + 1, i => if q1r ns i = true then 3 else orE (nodeE (q00 ns (i : Int))) (nodesE ns d (i + 1))
theorem nodesE_succ (ns : List S43) (d i : Nat) : nodesE ns (d + 1) i = if q1r ns i = true then 3 else orE (nodeE (q00 ns (i : Int))) (nodesE ns d (i + 1)) := rfl
def q0s (ns : List S43) (i : Int) : Nat := q1z ns (ns.length + 1) i
def upsE (ns : List S43) : Nat → Nat → Int
  | 0, _ => 0
  | d + 1, i => if ns.length < q0s ns (i : Int) then 8 else if 40 < q0s ns (i : Int) then 2 else upsE ns d (i + 1)
theorem upsE_succ (ns : List S43) (d i : Nat) : upsE ns (d + 1) i = if ns.length < q0s ns (i : Int) then 8 else if 40 < q0s ns (i : Int) then 2 else upsE ns d (i + 1) := rfl
def docE (ns : List S43) : Int :=
  if 200 < ns.length then 2 else if ns.length = 0 then 3 else orE (nodesE ns ns.length 0) (orE (kidsAll ns) (upsE ns ns.length 0))
def SmallN (ns : List S43) : Prop := ∀ i : Int, smallA (q00 ns i).f2 ∧ (q00 ns i).f1.size ≤ 140737488355328
theorem parsE_ok {ns : List S43} : ∀ {d i : Nat}, q1s ns d i = 0 → par ns 0 = -1 ∧ ∀ j : Nat, i ≤ j → j < i + d → q1i ns (j : Int) = false
  | 0, i, h => by
    unfold q1s at h
    by_cases c : par ns 0 = -1
    · exact ⟨c, fun j h1 h2 => by omega⟩
    · rw [if_neg c] at h; cases h
  | d + 1, i, h => by
    rw [show q1s ns (d + 1) i = if q1i ns (i : Int) = true then 3 else q1s ns d (i + 1) from rfl] at h
    by_cases c : q1i ns (i : Int) = true
    · rw [if_pos c] at h; cases h
    · rw [if_neg c] at h
      obtain ⟨h1, h2⟩ := parsE_ok h
      refine ⟨h1, fun j h3 h4 => ?_⟩
      by_cases e : j = i
      · subst e; simpa using c
      · exact h2 j (by omega) (by omega)
theorem orE_eq_zero {a b : Int} (h : orE a b = 0) : a = 0 ∧ b = 0 := by
  unfold orE at h
  by_cases c : a = 0
  · simp [c] at h; exact ⟨c, h⟩
  · rw [if_pos c] at h; exact absurd h c
theorem parBad_ok {ns : List S43} {i : Int} (h : q1i ns i = false) : par ns i = -1 ∨ (0 ≤ par ns i ∧ par ns i < ns.length ∧ hasK (kidL ns (par ns i)) i = true) := by
  unfold q1i at h
  by_cases c : par ns i = -1
  · exact .inl c
  · right
    simp [c] at h
    exact ⟨h.1, h.2.1, h.2.2⟩
theorem inR_of {ns : List S43} (h : q1s ns ns.length 0 = 0) : InR ns := by
  intro i h0 h1
  have := (parsE_ok h).2 i.toNat (Nat.zero_le _) (by omega)
  rw [show ((i.toNat : Nat) : Int) = i by omega] at this
  rcases parBad_ok this with h | h
  · omega
  · exact h.2.1
theorem prog_ups (ns : List S43) (q : Bool) (hl : ns.length ≤ 1000) (hr : InR ns) (d : Nat) : ∀ (i k : Nat), i + d = ns.length → d + ns.length + 2 < k → dom_Check.l1 k (ns.length : Int) (i : Int) ns q = some (upsE ns d i) := by
  induction d with
  | zero =>
    intro i k h hk
    obtain ⟨k, rfl⟩ : ∃ z, k = z + 1 := ⟨k - 1, by omega⟩
    rw [dom_Check.l1, if_neg (by omega)]
    rfl
  | succ d ih =>
    intro i k h hk
    obtain ⟨k, rfl⟩ : ∃ z, k = z + 1 := ⟨k - 1, by omega⟩
    rw [dom_Check.l1, if_pos (by omega), up_eq ns q hl hr (i : Int) (by omega) (by omega) k (by omega), Option.bind_some, w1 i (by omega), ih (i + 1) k (by omega) (by omega), upsE_succ]
    unfold q0s
    by_cases c : ns.length < q1z ns (ns.length + 1) (i : Int)
    · rw [if_pos (by omega), if_pos c]
    · rw [if_neg (by omega), if_neg c]
      by_cases c' : 40 < q1z ns (ns.length + 1) (i : Int)
      · rw [if_pos (by omega), if_pos c']
      · rw [if_neg (by omega), if_neg c']
theorem ref_ups (ns : List S43) (q : Bool) (hl : ns.length ≤ 1000) (hr : InR ns) (d : Nat) : ∀ (i k : Nat), i + d = ns.length → d + ns.length + 2 < k → clerestoryref1_DocErr.l4 k (ns.length : Int) (i : Int) ns q = some (upsE ns d i) := by
  induction d with
  | zero =>
    intro i k h hk
    obtain ⟨k, rfl⟩ : ∃ z, k = z + 1 := ⟨k - 1, by omega⟩
    rw [clerestoryref1_DocErr.l4, if_neg (by omega)]
    rfl
  | succ d ih =>
    intro i k h hk
    obtain ⟨k, rfl⟩ : ∃ z, k = z + 1 := ⟨k - 1, by omega⟩
    rw [clerestoryref1_DocErr.l4, if_pos (by omega), deep_eq ns q hl hr (i : Int) (by omega) (by omega) k (by omega), Option.bind_some, w1 i (by omega), ih (i + 1) k (by omega) (by omega), upsE_succ]
    unfold q0s
    by_cases c : ns.length < q1z ns (ns.length + 1) (i : Int)
    · rw [if_pos c, if_pos c, if_pos (by omega)]
    · rw [if_neg c, if_neg c, if_neg (by omega)]
      by_cases c' : 40 < q1z ns (ns.length + 1) (i : Int)
      · rw [if_pos (by omega), if_pos c']
      · rw [if_neg (by omega), if_neg c']
def rounds (ns : List S43) (M : Nat) : Nat := (2 * M + 3) * ns.length + 3 * ns.length + M + 1300
theorem prog_nodes (ns : List S43) (q : Bool) (hl : ns.length ≤ 200) (h1 : 0 < ns.length) (hs : SmallN ns) (M : Nat) (hM : M ≤ 4611686018427387900) (hk : KidsLe ns M) (d : Nat) : ∀ (i k : Nat), i + d = ns.length → d + rounds ns M < k →
    dom_Check.l0 k ns (ns.length : Int) (i : Int) ns q = some (orE (nodesE ns d i) (orE (kidsAll ns) (upsE ns ns.length 0))) := by
  induction d with
  | zero =>
    intro i k h hk'
    obtain ⟨k, rfl⟩ : ∃ z, k = z + 1 := ⟨k - 1, by omega⟩
    unfold rounds at hk'
    rw [dom_Check.l0, if_neg (by omega), kids_eq ns q (by omega) h1 M hM hk k (by omega), Option.bind_some]
    show _ = some (orE 0 _)
    rw [q1y]
    by_cases c : kidsAll ns = 0
    · rw [if_pos c, c, q1y]
      have hr : InR ns := inR_of (orE_eq_zero c).2
      exact prog_ups ns q (by omega) hr ns.length 0 k (by omega) (by omega)
    · rw [if_neg c, orE_ne _ c]
  | succ d ih =>
    intro i k h hk'
    obtain ⟨k, rfl⟩ : ∃ z, k = z + 1 := ⟨k - 1, by omega⟩
    have hrd : 1300 ≤ rounds ns M := by unfold rounds; omega
    rw [dom_Check.l0, if_pos (by omega), if_pos (by omega), if_pos (by omega), w1 i (by omega), ih (i + 1) k (by omega) (by omega), nodesE_succ]
    obtain ⟨x, hx⟩ : ∃ x, q00 ns (i : Int) = x := ⟨_, rfl⟩
    have hsx := hs (i : Int)
    rw [hx] at hsx
    have eb : (((q00 ns (i : Int)).f0 == 1) != ((i : Int) == 0)) = q1r ns i := by
      unfold q1r
      rw [show ((q00 ns (i : Int)).f0 == 1) = decide ((q00 ns (i : Int)).f0 = 1) from rfl]
      congr 1
      rw [Bool.eq_iff_iff]
      simp
    rw [eb, hx]
    by_cases c : q1r ns i = true
    · rw [if_pos c, if_pos c]; rfl
    · rw [if_neg c, if_neg c, one_eq x hsx.1 hsx.2 k (by omega), Option.bind_some]
      by_cases c2 : nodeE x = 0
      · rw [if_pos c2, c2, q1y]
      · rw [if_neg c2, orE_ne _ c2, orE_ne _ c2]
theorem ref_nodes (ns : List S43) (q : Bool) (hl : ns.length ≤ 200) (h1 : 0 < ns.length) (M : Nat) (hM : M ≤ 4611686018427387900) (hk : KidsLe ns M) (d : Nat) : ∀ (i k : Nat), i + d = ns.length → 2 * d + rounds ns M < k →
    clerestoryref1_DocErr.l0 k (ns.length : Int) (i : Int) ns q = some (orE (nodesE ns d i) (orE (kidsAll ns) (upsE ns ns.length 0))) := by
  induction d with
  | zero =>
    intro i k h hk'
    obtain ⟨k, rfl⟩ : ∃ z, k = z + 1 := ⟨k - 1, by omega⟩
    unfold rounds at hk'
    rw [clerestoryref1_DocErr.l0, if_neg (by omega)]
    show _ = some (orE 0 _)
    rw [q1y]
    have h3 := ref_l3 ns q (by omega) h1 M hM hk (M + 2 * ns.length + 3) (by omega) (upsE ns ns.length 0) (fun hz k hk => ref_ups ns q (by omega) (inR_of hz) ns.length 0 k (by omega) (by omega)) ns.length 0
    have h2 := ref_l1 ns q (by omega) M hM hk (M + 3 * ns.length + 4) (by omega) (orE (q1s ns ns.length 0) (upsE ns ns.length 0)) (fun k hk => h3 k (by omega) rfl (by omega)) ns.length 0 k (by omega) (by omega)
    refine h2.trans ?_
    unfold kidsAll
    by_cases c : kidsL ns ns.length 0 = 0
    · rw [c, q1y, q1y]
    · rw [orE_ne _ c, orE_ne _ c, orE_ne _ c]
  | succ d ih =>
    intro i k h hk'
    obtain ⟨k, rfl⟩ : ∃ z, k = z + 2 := ⟨k - 2, by omega⟩
    have hrd : 1300 ≤ rounds ns M := by unfold rounds; omega
    obtain ⟨x, hx⟩ : ∃ x, q00 ns (i : Int) = x := ⟨_, rfl⟩
    have hj : clerestoryref1_DocErr.j1 (k + 1) (ns.length : Int) (i : Int) (q1r ns i) ns q = some (orE (nodesE ns (d + 1) i) (orE (kidsAll ns) (upsE ns ns.length 0))) := by
      rw [clerestoryref1_DocErr.j1, nodesE_succ, hx]
      by_cases c : q1r ns i = true
      · rw [if_pos c, if_pos c]; rfl
      · rw [if_neg c, if_neg c, if_pos (by omega), if_pos (by omega), w1 i (by omega), ih (i + 1) k (by omega) (by omega), nodeErr_eq x k (by omega), Option.bind_some]
        by_cases c2 : nodeE x = 0
        · rw [if_pos c2, c2, q1y]
        · rw [if_neg c2, orE_ne _ c2, orE_ne _ c2]
    rw [clerestoryref1_DocErr.l0, if_pos (by omega)]
    have eb : (((q00 ns (i : Int)).f0) == 1) = decide ((q00 ns (i : Int)).f0 = 1) := rfl
    by_cases c0 : i = 0
    · rw [if_pos (by omega), if_pos (by omega), if_pos (by omega)]
      have er : q1r ns i = !decide ((q00 ns (i : Int)).f0 = 1) := by unfold q1r; rw [decide_eq_true c0]; simp
      by_cases c1 : (q00 ns (i : Int)).f0 = 1
      · rw [if_pos c1, if_neg (by omega)]
        rw [er, decide_eq_true c1] at hj
        exact hj
      · rw [if_neg c1]
        rw [er, decide_eq_false c1] at hj
        exact hj
    · rw [if_neg (by omega), if_pos (by omega), if_pos (by omega), if_pos (by omega)]
      have er : q1r ns i = decide ((q00 ns (i : Int)).f0 = 1) := by unfold q1r; rw [decide_eq_false c0]; simp
      rw [eb, ← er]
      exact hj
theorem check_eq (ns : List S43) (q : Bool) (hs : SmallN ns) (M : Nat) (hM : M ≤ 4611686018427387900) (hk : KidsLe ns M) (k : Nat) (hk' : 2 * ns.length + rounds ns M < k) : dom_Check.f k ns q = some (docE ns) := by
  unfold dom_Check.f docE
  by_cases c : 200 < ns.length
  · rw [if_pos (by omega), if_pos c]
  · rw [if_neg (by omega), if_neg c]
    by_cases c0 : ns.length = 0
    · rw [if_pos (by omega), if_pos c0]
    · rw [if_neg (by omega), if_neg c0]
      exact prog_nodes ns q (by omega) (by omega) hs M hM hk ns.length 0 k (by omega) (by omega)
theorem docErr_eq (ns : List S43) (q : Bool) (M : Nat) (hM : M ≤ 4611686018427387900) (hk : KidsLe ns M) (k : Nat) (hk' : 2 * ns.length + rounds ns M < k) : clerestoryref1_DocErr.f k ns q = some (docE ns) := by
  unfold clerestoryref1_DocErr.f docE
  by_cases c : 200 < ns.length
  · rw [if_pos (by omega), if_pos c]
  · rw [if_neg (by omega), if_neg c]
    by_cases c0 : ns.length = 0
    · rw [if_pos (by omega), if_pos c0]
    · rw [if_neg (by omega), if_neg c0]
      exact ref_nodes ns q (by omega) (by omega) M hM hk ns.length 0 k (by omega) (by omega)
end Go.Proofs.YthjnallbbhnndaaDoor.Dm
namespace Go.Proofs.YthjnallbbhnndaaDoor.Rd
open Go.ChangeShapes Go.WideShapes Go.ChangeAt Go.RowKit Go.Proofs.YthjnallbbhnndaaDoorW.PrintWords
def Reads {α : Type} (P : Program) (t : TypeId) (k : Kd α) (Q : α → Prop) : Prop :=
  P.cellsOf t = k.sz ∧ ∀ (H : Type) (enc : TypeId × Value → H) (w : World) (fuel : Nat) (cs : List Value) (x : DataW H × List MemPlace),
    DataW.trod enc P w 0 (fun _ => true) true fuel t cs = some x → (∀ n ∈ x.1.weights P t, n ≤ reachBytes) → ∃ a : α, k.K w a cs ∧ Q a
variable {P : Program} {t : TypeId}
theorem Reads.imp {α : Type} {k : Kd α} {Q Q' : α → Prop} (h : Reads P t k Q) (hq : ∀ a, Q a → Q' a) : Reads P t k Q' := by
  refine ⟨h.1, fun H enc w fuel cs x hx hw => ?_⟩
  obtain ⟨a, ha, hq'⟩ := h.2 H enc w fuel cs x hx hw
  exact ⟨a, ha, hq a hq'⟩
theorem reads_int {k : IntKind} (ht : P.underlying t = some (.int k)) (hc : P.cellsOf t = 1) : Reads P t (Kd.int k) (fun n => (Lit.int k n).wf = true) := by
  refine ⟨hc, fun H enc w fuel cs x hx _ => ?_⟩
  obtain ⟨n, rfl, _, hw⟩ := DataW.trod_int ht hx
  exact ⟨n, rfl, hw⟩
theorem reads_bool (ht : P.underlying t = some .bool) (hc : P.cellsOf t = 1) : Reads P t Kd.bool (fun _ => True) := by
  refine ⟨hc, fun H enc w fuel cs x hx _ => ?_⟩
  obtain ⟨b, rfl, _⟩ := DataW.trod_bool ht hx
  exact ⟨b, rfl, trivial⟩
theorem reads_string (ht : P.underlying t = some .string) (hc : P.cellsOf t = 1) : Reads P t Kd.string (fun s => s.size ≤ reachBytes) := by
  refine ⟨hc, fun H enc w fuel cs x hx hw => ?_⟩
  obtain ⟨s, rfl, rfl, _⟩ := DataW.trod_string ht hx
  exact ⟨s, rfl, by simpa [DataW.weights] using hw⟩
theorem weightsAll_mem {H : Type} {e : TypeId} : ∀ {l : List (DataW H)} {d : DataW H}, d ∈ l → ∀ n ∈ d.weights P e, n ∈ DataW.weightsAll P e l
  | a :: l, d, hd, n, hn => by
    unfold DataW.weightsAll
    rcases List.mem_cons.1 hd with rfl | h
    · exact List.mem_append_left _ hn
    · exact List.mem_append_right _ (weightsAll_mem h n hn)
theorem choose_list {α : Type} {p : Nat → α → Prop} : ∀ (n : Nat), (∀ i, i < n → ∃ a, p i a) → ∃ l : List α, l.length = n ∧ ∀ i a, l[i]? = some a → p i a
  | 0, _ => ⟨[], rfl, fun i a h => by simp at h⟩
  | n + 1, h => by
    obtain ⟨l, hl, hp⟩ := choose_list n (fun i hi => h i (by omega))
    obtain ⟨a, ha⟩ := h n (by omega)
    refine ⟨l ++ [a], by simp [hl], fun i b hb => ?_⟩
    by_cases hi : i < l.length
    · rw [List.getElem?_append_left hi] at hb
      exact hp i b hb
    · have := (List.getElem?_eq_some_iff.1 hb).1
      simp at this
      have e : i = l.length := by omega
      subst e
      simp at hb
      subst hb
      rw [hl]
      exact ha
theorem reads_slice {e : TypeId} {α : Type} {k : Kd α} {Q : α → Prop} (ht : P.underlying t = some (.slice e)) (hc : P.cellsOf t = 1) (he : Reads P e k Q) :
    Reads P t (Kd.slice e k) (fun l => l.length * P.bytesOf e ≤ reachBytes ∧ l.length ≤ 9223372036854775807 ∧ ∀ a ∈ l, Q a) := by
  refine ⟨hc, fun H enc w fuel cs x hx hw => ?_⟩
  rcases DataW.trod_slice ht hx with ⟨rfl, rfl⟩ | ⟨a, len, cap, elems, rest, n, _, rfl, rfl, _, hl, hm, hlen, hel, _, _⟩
  · exact ⟨[], ⟨none, 0, rfl, Nat.le_refl _, ⟨rfl, by simp, fun h => absurd h (by simp)⟩⟩, by simp, by simp, by simp⟩
  · have hw' : ∀ m ∈ ((elems.map (·.1)).length + (rest.map (·.1)).length) * P.bytesOf e :: (DataW.weightsAll P e (elems.map (·.1)) ++ DataW.weightsAll P e (rest.map (·.1))), m ≤ reachBytes := by
      have := hw
      unfold DataW.weights at this
      rw [ht] at this
      exact this
    have each : ∀ i, i < len → ∃ b, (∃ c, w.cells? 0 (a.add (i * P.cellsOf e)) (P.cellsOf e) = some c ∧ k.K w b c) ∧ Q b := by
      intro i hi
      have h1 := hel i hi
      have hi' : i < elems.length := by omega
      rw [List.getElem?_eq_getElem hi', Option.bind_eq_some_iff] at h1
      obtain ⟨c, hcs, hy⟩ := h1
      obtain ⟨b, hb, hq⟩ := he.2 H enc w n c _ hy (fun m hm' => hw' m (List.mem_cons_of_mem _ (List.mem_append_left _ (weightsAll_mem (List.mem_map.2 ⟨_, List.getElem_mem hi', rfl⟩) m hm'))))
      exact ⟨b, ⟨c, hcs, hb⟩, hq⟩
    obtain ⟨l, hll, hp⟩ := choose_list len each
    have hmax : len ≤ 9223372036854775807 := by unfold maxLen at hm; omega
    refine ⟨l, ⟨some a, cap, by rw [hll], by omega, ⟨rfl, by omega, fun _ => ⟨a, rfl, fun j p hj => ?_⟩⟩⟩, ?_, by omega, fun b hb => ?_⟩
    · obtain ⟨⟨c, hcs, hb⟩, _⟩ := hp j p hj
      refine ⟨c, k.K_len hb, hb, fun i u hu => ?_⟩
      obtain ⟨_, hlen', hcell⟩ := World.cells?_some hcs
      have hi := (List.getElem?_eq_some_iff.1 hu).1
      have := hcell i (by omega)
      rw [hu, Go.Deep.add_add] at this
      rw [← he.1]
      exact this
    · have := hw' _ (List.mem_cons_self ..)
      simp only [List.length_map] at this
      rw [hll, ← hlen]
      exact Nat.le_trans (Nat.mul_le_mul_right _ (Nat.le_add_right _ _)) this
    · obtain ⟨i, hi⟩ := List.getElem?_of_mem hb
      exact (hp i b hi).2
def ReadsF {α : Type} (P : Program) (fs : List Field) (off : Nat) (k : Kd α) (Q : α → Prop) : Prop :=
  ∀ (H : Type) (enc : TypeId × Value → H) (w : World) (n : Nat) (cs : List Value) (xs : List (DataW H × List MemPlace)), xs.length = fs.length →
    (∀ (i : Nat) (f : Field), fs[i]? = some f → DataW.trod enc P w 0 (fun _ => true) true n f.type ((cs.drop f.offset).take (P.cellsOf f.type)) = xs[i]?) →
    (∀ m ∈ DataW.weightsEach P (fs.map (·.type)) (xs.map (·.1)), m ≤ reachBytes) → cs.length = off + k.sz → ∃ a : α, k.K w a (cs.drop off) ∧ Q a
theorem readsF_one {f : Field} {off : Nat} {α : Type} {k : Kd α} {Q : α → Prop} (hf : f.offset = off) (h : Reads P f.type k Q) : ReadsF P [f] off k Q := by
  intro H enc w n cs xs hl hx hw hc
  obtain ⟨y, rfl⟩ : ∃ y, xs = [y] := by
    match xs, hl with
    | [y], _ => exact ⟨y, rfl⟩
  have h1 := hx 0 f rfl
  rw [hf, h.1, List.take_of_length_le (by rw [List.length_drop]; omega)] at h1
  exact h.2 H enc w n _ y h1 (fun m hm => hw m (by simp [DataW.weightsEach, hm]))
theorem readsF_cons {f : Field} {fs : List Field} {off : Nat} {α β : Type} {k1 : Kd α} {k2 : Kd β} {Q1 : α → Prop} {Q2 : β → Prop} (hf : f.offset = off) (h : Reads P f.type k1 Q1) (hr : ReadsF P fs (off + k1.sz) k2 Q2) :
    ReadsF P (f :: fs) off (Kd.pair k1 k2) (fun p => Q1 p.1 ∧ Q2 p.2) := by
  intro H enc w n cs xs hl hx hw hc
  obtain ⟨y, ys, rfl⟩ : ∃ y ys, xs = y :: ys := by
    match xs, hl with
    | y :: ys, _ => exact ⟨y, ys, rfl⟩
  have h1 := hx 0 f rfl
  rw [hf, h.1] at h1
  have hsz : (Kd.pair k1 k2).sz = k1.sz + k2.sz := rfl
  obtain ⟨a, ha, hqa⟩ := h.2 H enc w n _ y h1 (fun m hm => hw m (by simp [DataW.weightsEach, hm]))
  obtain ⟨b, hb, hqb⟩ := hr H enc w n cs ys (by simpa using hl) (fun i g hg => by simpa using hx (i + 1) g (by simpa using hg)) (fun m hm => hw m (by simp [DataW.weightsEach]; exact .inr (by simpa using hm))) (by omega)
  refine ⟨(a, b), ⟨_, _, ?_, ha, hb⟩, hqa, hqb⟩
  rw [← List.drop_drop, List.take_append_drop]
theorem reads_struct {fs : Array Field} {α : Type} {k : Kd α} {Q : α → Prop} (ht : P.underlying t = some (.struct fs)) (hc : P.cellsOf t = k.sz) (h : ReadsF P fs.toList 0 k Q) : Reads P t k Q := by
  refine ⟨hc, fun H enc w fuel cs x hx hw => ?_⟩
  obtain ⟨xs, n, _, rfl, hl, hlen, hf⟩ := DataW.trod_struct ht hx
  have := h H enc w n cs xs (by simpa using hlen) (fun i f hi => hf i f (by simpa using hi)) (fun m hm => hw m (by unfold DataW.weights; rw [ht]; exact hm)) (by omega)
  simpa using this
theorem Reads.iso {α β : Type} {k : Kd α} {Q : α → Prop} (h : Reads P t k Q) (f : β → α) (g : α → β) (hg : ∀ a, f (g a) = a) : Reads P t (Kd.iso k f) (fun b => Q (f b)) := by
  refine ⟨h.1, fun H enc w fuel cs x hx hw => ?_⟩
  obtain ⟨a, ha, hq⟩ := h.2 H enc w fuel cs x hx hw
  exact ⟨g a, by show k.K w (f (g a)) cs; rw [hg]; exact ha, by show Q (f (g a)); rw [hg]; exact hq⟩
theorem open_struct_arg {H : Type} {enc : TypeId × Value → H} {r : Reach} {b0 : Nat} {w : World} {fs : Array Field} {α : Type} {k : Kd α} {Q : α → Prop} {v : Value} {d : DataW H} {p : List MemPlace}
    (hr : Reads P t k Q) (ht : P.underlying t = some (.struct fs)) (hv : Value.okWide P w r b0 t v) (h : DataW.Trod enc P w 0 (fun _ => true) true t v d p) (hw : ∀ n ∈ d.weights P t, n ≤ reachBytes) :
    ∃ (cs : List Value) (x : α), v = .agg ⟨cs⟩ ∧ k.K w x cs ∧ Q x := by
  obtain ⟨cs, rfl, _⟩ := okWide_struct ht hv
  obtain ⟨fuel, hf⟩ := h
  obtain ⟨x, hx, hq⟩ := hr.2 H enc w fuel _ _ hf hw
  exact ⟨cs.toList, x, rfl, hx, hq⟩
theorem weights_arg {H : Type} {ts : List TypeId} {ds : List (DataW H)} (h : (DataW.weightsEach P ts ds).all (· ≤ reachBytes) = true) {j : Nat} {d : DataW H} (ht : ts[j]? = some t) (hd : ds[j]? = some d) : ∀ n ∈ d.weights P t, n ≤ reachBytes := by
  intro n hn
  have := DataW.weights_mem_each ht hd n hn
  simpa using (List.all_eq_true.1 h) n this
end Go.Proofs.YthjnallbbhnndaaDoor.Rd
namespace Go.Proofs.YthjnallbbhnndaaDoor.XSp
open Go.Proofs.YthjnallbbhnndaaDoor.Short Go.RowKit Go.Proofs.YthjnallbbhnndaaDoorW.PrintWords Go.Proofs.YthjnallbbhnndaaDoorW.PrintLast Go.Proofs.YthjnallbbhnndaaDoorW.PrintMore
attribute [local go_sem] max2_int min2_int max_two min_two q1n q1m max_four min_four   -- for this text's walks alone
set_option linter.unusedVariables false
set_option linter.unusedSimpArgs false
def slices_Reverse_int_int.l0 : Nat → List Int → Int → Int → Option (List Int)
 | 0, _, _, _ => none
 | k + 1, x0, x2, x3 => if x2 < x3 then (if 0 ≤ x3 then (if x3 < (x0.length : Int) then (if 0 ≤ x2 then (if x2 < (x0.length : Int) then (slices_Reverse_int_int.l0 k ((x0.set (x2 : Int).toNat (rd x0 x3)).set (x3 : Int).toNat (rd x0 x2)) (wrap64 (x2 + 1)) (wrap64 (x3 - 1))) else (none)) else (none)) else (none)) else (none)) else (some x0)
def slices_Reverse_int_int.f (k : Nat) (l0 : List Int) : Option (List Int) := slices_Reverse_int_int.l0 k l0 0 (wrap64 ((l0.length : Int) - 1))
theorem slices_Reverse_int_int.mono_l : ∀ k, (∀ y0 y1 y2, LeO (slices_Reverse_int_int.l0 k y0 y1 y2) (slices_Reverse_int_int.l0 (k + 1) y0 y1 y2))
 | 0 => fun _ _ _ r h => by simp [slices_Reverse_int_int.l0] at h
 | k + 1 => by
  have ih0 := slices_Reverse_int_int.mono_l k
  ·intro y0 y1 y2
   unfold slices_Reverse_int_int.l0
   repeat' first | with_reducible first | apply ih0 | exact LeO.refl _ | exact LeO.none _ | refine LeO.ite ?_ ?_ | refine LeO.bind ?_ (fun _ => ?_) | (first | apply ih0 | exact LeO.none _ | refine LeO.ite ?_ ?_ | refine LeO.bind ?_ (fun _ => ?_))
theorem slices_Reverse_int_int.mono : ∀ a0 k, LeO (slices_Reverse_int_int.f k a0) (slices_Reverse_int_int.f (k + 1) a0) := by
 intro a0 k
 have ih0 := slices_Reverse_int_int.mono_l k
 unfold slices_Reverse_int_int.f
 repeat' first | with_reducible first | apply ih0 | exact LeO.refl _ | exact LeO.none _ | refine LeO.ite ?_ ?_ | refine LeO.bind ?_ (fun _ => ?_) | (first | apply ih0 | exact LeO.none _ | refine LeO.ite ?_ ?_ | refine LeO.bind ?_ (fun _ => ?_))
def slices_Reverse_int_int.T3 : Bool × List (List Nat × List Nat) := (true, [([], []), ([], []), ([], []), ([], []), ([], []), ([], []), ([4, 5], [4, 5]), ([6], [6]), ([], []), ([], []), ([8, 9], [8, 9]), ([10], [10]), ([0, 1, 0, 1, 4, 5, 6, 7, 11], [0, 1]), ([12, 7, 0, 1, 4, 5, 6, 7, 11], [7, 12]), ([2, 3, 0, 1, 2, 3, 4, 5, 6, 7, 8, 9, 10, 11, 12, 13], [2, 3]), ([14, 11, 13, 0, 1, 2, 3, 4, 5, 6, 7, 8, 9, 10, 11, 12, 13], [11, 14])])
def slices_Reverse_int_int.B3 : List Nat := [0, 0, 0, 0, 0, 0, 48, 112, 0, 0, 768, 1792, 4083, 8179, 16383, 32767]
theorem slices_Reverse_int_int.tab3 : rtab .any (opsOf Tryd.f111 3) = slices_Reverse_int_int.T3 := by kernel_rfl
theorem slices_Reverse_int_int.bits3 : waitsOk slices_Reverse_int_int.T3.2 slices_Reverse_int_int.B3 = true := by kernel_rfl
set_option maxHeartbeats 8000000 in
set_option maxRecDepth 100000 in
theorem slices_Reverse_int_int.calls (k : Nat) (P0_ : Nat → Prop) (u9000_ : Value) (l0 : List Int) (r : List Int) (w0 w : World) (hB : Below w0.heap.size w0 w) (ho0 : Kd.R (Kd.int .i64) 3 w w0.heap.size P0_ u9000_ l0) (h : slices_Reverse_int_int.f k l0 = some r) :
 Calls Tryd.prog 111 #[u9000_] w fun e w' => e = .returned (.tuple #[]) ∧ Kd.R (Kd.int .i64) 3 w' w0.heap.size (fun k_ => (P0_ k_ ∨ w.heap.size ≤ k_)) u9000_ r ∧ Below w0.heap.size w0 w' ∧ Kept w w' (fun k_ => P0_ k_) := by
 have HO0 := aS (show Kd.R (Kd.int .i64) 3 w w0.heap.size (fun k_ => (P0_ k_ ∨ w.heap.size ≤ k_)) u9000_ l0 from Kd.R_mono ho0 (fun k_ hk => (.inl hk)))
 have HK := aS (Kept.refl w (fun k_ => P0_ k_))
 have HW0 := aS hB.size
 have HB := aS hB
 clear hB
 have H : (slices_Reverse_int_int.l0 k l0 0 (wrap64 ((l0.length : Int) - 1))) = some r := h
 clear h
 have H' := aS H
 clear H
 obtain ⟨Ao2, co2, eo2⟩ := Kd.R_slice HO0.out
 subst eo2
 go_enter Tryd.func111, Tryd.ntmps111
 go_wp2
 go_loopg [2, 3] k (fun kq v2 v3 w' => ∃ (x0_1 : List Int) (x2_1 : Int) (x3_1 : Int), v2 = .int .i64 x2_1 ∧ v3 = .int .i64 x3_1 ∧ Aside0 (slices_Reverse_int_int.l0 kq x0_1 x2_1 x3_1 = some r) ∧ Aside0 (kq ≤ k) ∧ Aside0 (Kd.R (Kd.int .i64) 3 w' w0.heap.size (fun k_ => (P0_ k_ ∨ w.heap.size ≤ k_)) (.slice Ao2 l0.length co2) x0_1) ∧ Aside0 (Kept w w' (fun k_ => P0_ k_)) ∧ Aside0 (Below w0.heap.size w0 w'))
 case atStart => exact ⟨(l0), (0), (wrap64 ((l0.length : Int) - 1)), zi, zi, H', ⟨Nat.le_refl _⟩, ⟨by (with_reducible repeat (first | apply rA | apply rN | apply rD)); exact HO0.out⟩, ⟨by repeat (first | (with_reducible first | exact HK.out | apply Kept.alloc | apply Kept.drewN | apply Kept.drew) | exact HK.out)⟩, ⟨by repeat (first | (with_reducible first | exact HB.out | apply bA | apply bN | apply bD) | exact HB.out)⟩⟩
 case round =>
  clear H'
  try clear c1
  try clear p2
  obtain ⟨x0_1, x2_1, x3_1, rfl, rfl, HA, HK1, HO_0, HK, HB⟩ := hrel
  have hl0_1 := (Kd.R_reads' HO_0.out).1
  rw [hl0_1] at HO_0
  (try simp only [hl0_1])
  cases gk with
  | zero => exact absurd HA.out (by simp [slices_Reverse_int_int.l0])
  | succ k1 =>
   have H := HA.out
   clear HA
   simp only [slices_Reverse_int_int.l0] at H
   by_cases c3 : x2_1 < x3_1
   ·rw [if_pos c3] at H
    have c3b0 : decide (x2_1 < x3_1) = true := decide_eq_true c3
    clear c3
    by_cases c4 : 0 ≤ x3_1
    ·rw [if_pos c4] at H
     have c4b0 : decide (0 ≤ x3_1) = true := decide_eq_true c4
     clear c4
     by_cases c5 : x3_1 < (x0_1.length : Int)
     ·rw [if_pos c5] at H
      have c5b0 : decide (x3_1 < (x0_1.length : Int)) = true := decide_eq_true c5
      clear c5
      by_cases c6 : 0 ≤ x2_1
      ·rw [if_pos c6] at H
       have c6b0 : decide (0 ≤ x2_1) = true := decide_eq_true c6
       clear c6
       by_cases c7 : x2_1 < (x0_1.length : Int)
       ·rw [if_pos c7] at H
        have c7b0 : decide (x2_1 < (x0_1.length : Int)) = true := decide_eq_true c7
        clear c7
        obtain ⟨y248, hy248⟩ : ∃ y_ : List Int, y_ = (x0_1.set (x2_1 : Int).toNat (rd x0_1 x3_1)) := ⟨_, rfl⟩
        replace H : (slices_Reverse_int_int.l0 k1 (y248.set (x3_1 : Int).toNat (rd x0_1 x2_1)) (wrap64 (x2_1 + 1)) (wrap64 (x3_1 - 1))) = some r := by first | (rw [hy248]; with_reducible exact H) | (have H2_ := (Option.bind_some _ _).symm.trans H; rw [hy248]; with_reducible exact H2_) | (have H2_ := (Option.bind_some _ _).symm.trans H; with_reducible exact H2_) | with_reducible exact H | (rw [hy248]; exact H) | exact H
        have Ny248 := aS hy248
        clear hy248
        obtain ⟨y249, hy249⟩ : ∃ y_ : List Int, y_ = (y248.set (x3_1 : Int).toNat (rd x0_1 x2_1)) := ⟨_, rfl⟩
        replace H : (slices_Reverse_int_int.l0 k1 y249 (wrap64 (x2_1 + 1)) (wrap64 (x3_1 - 1))) = some r := by first | (rw [hy249]; with_reducible exact H) | (have H2_ := (Option.bind_some _ _).symm.trans H; rw [hy249]; with_reducible exact H2_) | (have H2_ := (Option.bind_some _ _).symm.trans H; with_reducible exact H2_) | with_reducible exact H | (rw [hy249]; exact H) | exact H
        have Ny249 := aS hy249
        clear hy249
        have H' := aS H
        clear H
        try go_wp2
        have n0_ := aS (Kd.R_drew HO_0.out)
        have n1_ := aS (Kept.drew HK.out)
        have n2_ := aS (q0t HB.out)
        clear HO_0
        clear HK
        clear HB
        have HO_0 := n0_
        have HK := n1_
        have HB := n2_
        clear n0_ n1_ n2_
        have p246 : 0 ≤ (x3_1 : Int) := od zb
        have q246 : x3_1 < (x0_1.length : Int) := od zb
        obtain ⟨ad246, e246, hx246_0⟩ := Kd.at_int (Kd.R_reads' HO_0.out).2.2 x3_1 p246 q246
        cases e246
        replace p246 := eq_true p246
        replace q246 := eq_true q246
        have p247 : 0 ≤ (x2_1 : Int) := od zb
        have q247 : x2_1 < (x0_1.length : Int) := od zb
        obtain ⟨ad247, e247, hx247_0⟩ := Kd.at_int (Kd.R_reads' HO_0.out).2.2 x2_1 p247 q247
        obtain rfl : ad246 = ad247 := (by injection e247)
        replace p247 := eq_true p247
        replace q247 := eq_true q247
        have p8 : 0 ≤ (x2_1 : Int) := od zb
        have q8 : (x2_1 : Int) < ((x0_1.length : Int) : Int) := od zb
        obtain ⟨go8, co8, eo8, gb8, gl8, cl8, HG8⟩ := Kd.R_form HO_0.out (by omega)
        (first | cases eo8 | (injection eo8 with ea_ en_ ec_; (first | subst ea_ | (injection ea_ with ea_; subst ea_)); subst ec_; clear en_))
        have GB8 := aS gb8
        have GG8 := aS HG8
        clear gb8 gl8 HG8
        have HMgo8 := aS (show (P0_ go8 ∨ w.heap.size ≤ go8) from (HO_0.out.1 _ rfl))
        (first | simp only [q1p] at hx246_0 | skip)
        (first | simp only [q1p] at hx247_0 | skip)
        obtain ⟨hx8_0, hf8_0⟩ := Kd.R_celln 0 HO_0.out (x2_1 : Int) p8 q8
        replace p8 := eq_true p8
        replace q8 := eq_true q8
        have HP11 := Kd.R_putn HO_0.out (x2_1 : Int) (rd x0_1 x3_1)
        rw [← Ny248.out] at HP11
        have HQ11 := aS HP11
        clear HP11
        have p9 : 0 ≤ (x3_1 : Int) := od zb
        have q9 : (x3_1 : Int) < ((x0_1.length : Int) : Int) := od zb
        obtain ⟨hx9_0, hf9_0⟩ := Kd.R_celln 0 HQ11.out (x3_1 : Int) p9 q9
        replace p9 := eq_true p9
        replace q9 := eq_true q9
        have HP12 := Kd.R_putn HQ11.out (x3_1 : Int) (rd x0_1 x2_1)
        rw [← Ny249.out] at HP12
        have HQ12 := aS HP12
        clear HP12
        refine start_ (n := 16) (S := fun w' => w'.cell? ⟨go8, (x3_1).toNat, none⟩ = some (.int .i64 (rd x0_1 x3_1)) ∧ w'.cell? ⟨go8, (x2_1).toNat, none⟩ = some (.int .i64 (rd x0_1 x2_1))) (ds := [13, 15]) #[false, false, false, false, false, false, false, false, false, false, false, false, false, false, false, false] (by kernel_rfl) rfl rfl ⟨hx246_0, hx247_0⟩ (fun hHeld => ?_); refine q14 slices_Reverse_int_int.tab3 slices_Reverse_int_int.bits3 (fun HT_ HW_ => ?_)
        generalize wr.drew = w10 at HO_0 HK HB GG8 HQ11 HQ12 hf8_0 hf9_0 hx246_0 hx247_0 hx8_0 hx9_0 hHeld ⊢
        refine q0e (i := 0) (N := some 14) (v := ?_) (a' := ?_) #[true, false, false, false, false, false, false, false, false, false, false, false, false, false, false, false] rfl rfl (q0b HT_.out (by kernel_rfl)) (fun _ _ _ h => h) (Or.inl ⟨by rfl, ?_⟩) ?_ ?_
        rotate_left
        ·intro w'
         go_simp
         with_reducible rfl
        rotate_left
        ·simp only [Act.put, s1, s2, s3, q09, q0a]
         rfl
        refine q0e (i := 1) (N := some 15) (v := ?_) (a' := ?_) #[true, true, false, false, false, false, false, false, false, false, false, false, false, false, false, false] rfl rfl (q0b HT_.out (by kernel_rfl)) (fun _ _ _ h => h) (Or.inl ⟨by rfl, ?_⟩) ?_ ?_
        rotate_left
        ·intro w'
         go_simp
         with_reducible rfl
        rotate_left
        ·simp only [Act.put, s1, s2, s3, q09, q0a]
         rfl
        refine q0e (i := 2) (N := some 16) (v := ?_) (a' := ?_) #[true, true, true, false, false, false, false, false, false, false, false, false, false, false, false, false] rfl rfl (q0b HT_.out (by kernel_rfl)) (fun _ _ _ h => h) (Or.inl ⟨by rfl, ?_⟩) ?_ ?_
        rotate_left
        ·intro w'
         go_simp
         with_reducible rfl
        rotate_left
        ·simp only [Act.put, s1, s2, s3, q09, q0a]
         rfl
        refine q0e (i := 3) (N := some 17) (v := ?_) (a' := ?_) #[true, true, true, true, false, false, false, false, false, false, false, false, false, false, false, false] rfl rfl (q0b HT_.out (by kernel_rfl)) (fun _ _ _ h => h) (Or.inl ⟨by rfl, ?_⟩) ?_ ?_
        rotate_left
        ·intro w'
         go_simp
         with_reducible rfl
        rotate_left
        ·simp only [Act.put, s1, s2, s3, q09, q0a]
         rfl
        refine q0e (i := 4) (N := some 18) (v := ?_) (a' := ?_) #[true, true, true, true, true, false, false, false, false, false, false, false, false, false, false, false] rfl rfl (q0b HT_.out (by kernel_rfl)) (fun _ _ _ h => h) (Or.inl ⟨by rfl, ?_⟩) ?_ ?_
        rotate_left
        ·intro w'
         go_simp
         with_reducible rfl
        rotate_left
        ·simp only [Act.put, s1, s2, s3, q09, q0a]
         rfl
        refine q0e (i := 5) (N := some 19) (v := ?_) (a' := ?_) #[true, true, true, true, true, true, false, false, false, false, false, false, false, false, false, false] rfl rfl (q0b HT_.out (by kernel_rfl)) (fun _ _ _ h => h) (Or.inl ⟨by rfl, ?_⟩) ?_ ?_
        rotate_left
        ·intro w'
         go_simp
         with_reducible rfl
        rotate_left
        ·simp only [Act.put, s1, s2, s3, q09, q0a]
         rfl
        refine q0e (i := 6) (N := some 20) (v := ?_) (a' := ?_) #[true, true, true, true, true, true, true, false, false, false, false, false, false, false, false, false] rfl rfl (q0b HT_.out (by kernel_rfl)) (fun _ _ _ h => h) (Or.inl ⟨by rfl, ?_⟩) ?_ ?_
        rotate_left
        ·intro w'
         go_simp
         with_reducible rfl
        rotate_left
        ·simp only [Act.put, s1, s2, s3, q09, q0a]
         rfl
        refine q0e (i := 8) (N := some 22) (v := ?_) (a' := ?_) #[true, true, true, true, true, true, true, false, true, false, false, false, false, false, false, false] rfl rfl (q0b HT_.out (by kernel_rfl)) (fun _ _ _ h => h) (Or.inl ⟨by rfl, ?_⟩) ?_ ?_
        rotate_left
        ·intro w'
         go_simp
         with_reducible rfl
        rotate_left
        ·simp only [Act.put, s1, s2, s3, q09, q0a]
         rfl
        refine q0e (i := 9) (N := some 23) (v := ?_) (a' := ?_) #[true, true, true, true, true, true, true, false, true, true, false, false, false, false, false, false] rfl rfl (q0b HT_.out (by kernel_rfl)) (fun _ _ _ h => h) (Or.inl ⟨by rfl, ?_⟩) ?_ ?_
        rotate_left
        ·intro w'
         go_simp
         with_reducible rfl
        rotate_left
        ·simp only [Act.put, s1, s2, s3, q09, q0a]
         rfl
        refine q0e (i := 10) (N := some 24) (v := ?_) (a' := ?_) #[true, true, true, true, true, true, true, false, true, true, true, false, false, false, false, false] rfl rfl (q0b HT_.out (by kernel_rfl)) (fun _ _ _ h => h) (Or.inl ⟨by rfl, ?_⟩) ?_ ?_
        rotate_left
        ·intro w'
         go_simp
         with_reducible rfl
        rotate_left
        ·simp only [Act.put, s1, s2, s3, q09, q0a]
         rfl
        refine take_ (i := 7) (N := some 21) (v := ?_) (a' := ?_) #[true, true, true, true, true, true, true, true, true, true, true, false, false, false, false, false] rfl rfl (q0m HT_.out HW_.out (by kernel_rfl)) (fun _ _ _ h => h) (Or.inl ⟨by rfl, ?_⟩) hHeld ?_ ?_
        rotate_left
        ·rintro w' ⟨s0, s1⟩
         go_simp
         with_reducible rfl
        rotate_left
        ·simp only [Act.put, s1, s2, s3, q09, q0a]
         rfl
        refine take_ (i := 11) (N := some 25) (v := ?_) (a' := ?_) #[true, true, true, true, true, true, true, true, true, true, true, true, false, false, false, false] rfl rfl (q0m HT_.out HW_.out (by kernel_rfl)) (fun _ _ _ h => h) (Or.inl ⟨by rfl, ?_⟩) hHeld ?_ ?_
        rotate_left
        ·rintro w' ⟨s0, s1⟩
         go_simp
         with_reducible rfl
        rotate_left
        ·simp only [Act.put, s1, s2, s3, q09, q0a]
         rfl
        refine q0e (i := 12) (N := some 26) (v := ?_) (a' := ?_) #[true, true, true, true, true, true, true, true, true, true, true, true, true, false, false, false] rfl rfl (q0b HT_.out (by kernel_rfl)) (fun _ _ _ h => h) (Or.inl ⟨by rfl, ?_⟩) ?_ ?_
        rotate_left
        ·intro w'
         go_simp
         with_reducible rfl
        rotate_left
        ·simp only [Act.put, s1, s2, s3, q09, q0a]
         rfl
        refine last_ (i := 13) (N := none) #[true, true, true, true, true, true, true, true, true, true, true, true, true, true, false, false] rfl rfl (q1j HT_.out (by kernel_rfl)) (by decide) (fun K hK => ?_)
        refine skip_ (w1 := ?_) (by rfl) rfl ?_ ?_
        rotate_left
        ·go_simp
         rfl
        refine hK.out _ _ ?_
        clear hK K
        refine q0e (i := 14) (N := some 27) (v := ?_) (a' := ?_) #[true, true, true, true, true, true, true, true, true, true, true, true, true, true, true, false] rfl rfl (q0b HT_.out (by kernel_rfl)) (fun _ _ _ h => h) (Or.inl ⟨by rfl, ?_⟩) ?_ ?_
        rotate_left
        ·intro w'
         go_simp
         with_reducible rfl
        rotate_left
        ·simp only [Act.put, s1, s2, s3, q09, q0a]
         rfl
        refine last_ (i := 15) (N := none) #[true, true, true, true, true, true, true, true, true, true, true, true, true, true, true, true] rfl rfl (q1j HT_.out (by kernel_rfl)) (by decide) (fun K hK => ?_)
        refine skip_ (w1 := ?_) (by rfl) rfl ?_ ?_
        rotate_left
        ·go_simp
         rfl
        refine hK.out _ _ ?_
        clear hK K
        refine done_ (q1l HT_.out (by kernel_rfl)) ?_
        try go_wp2
        (try simp only [← hl0_1])
        go_roundg k1
        case measure => have := HK1.out; omega
        case rel => exact ⟨(y249), (wrap64 (x2_1 + 1)), (wrap64 (x3_1 - 1)), zi, zi, H', ⟨by have := HK1.out; omega⟩, ⟨by (try simp only [hl0_1]); (with_reducible repeat (first | apply rA | apply rN | apply rD)); exact HQ12.out⟩, ⟨by repeat (first | (with_reducible first | exact HK.out | apply Kept.alloc | apply Kept.drewN | apply Kept.drew | refine Kept.setCell ?_ HMgo8.out _ | refine Kept.setCell ?_ HMgo8.out _) | exact HK.out)⟩, ⟨by repeat (first | (with_reducible first | exact HB.out | apply bA | apply bN | apply bD | refine bS ?_ GB8.out | refine bS ?_ GB8.out) | exact HB.out)⟩⟩
       ·rw [if_neg c7] at H
        exact absurd H (by simp)
      ·rw [if_neg c6] at H
       exact absurd H (by simp)
     ·rw [if_neg c5] at H
      exact absurd H (by simp)
    ·rw [if_neg c4] at H
     exact absurd H (by simp)
   ·rw [if_neg c3] at H
    have c3b0 : decide (x2_1 < x3_1) = false := decide_eq_false c3
    (try simp only [hl0_1] at c3b0)
    clear c3
    obtain rfl := Option.some.inj H
    go_wp2
    first | go_end0 | ((try simp only [Exit.inBlock, Exit.then]); refine bodyPost_ret (results_none rfl _ _ _) rfl ?_)
    exact ⟨by first | rfl | (simp [q05, q04] <;> rfl) | (simp [*, q05, q04] <;> rfl), (by first | exact (zf HO_0.out) | (simp only [hl0_1]; exact (zf HO_0.out))), by repeat (first | (with_reducible first | exact HB.out | apply bA | apply bN | apply bD) | exact HB.out), by repeat (first | (with_reducible first | exact HK.out | apply Kept.alloc | apply Kept.drewN | apply Kept.drew) | exact HK.out)⟩
def span_ranger_path.l0 : Nat → List Int → Int → List (S43) → Bool → Option (List Int)
 | 0, _, _, _, _ => none
 | k + 1, x5, x6, x251000, x251001 => if x6 > 0 then (if 0 ≤ x6 then (if x6 < (x251000.length : Int) then (if ((q00 x251000 x6).f4) < 0 then (some ([] : List Int)) else (if 0 ≤ ((q00 x251000 x6).f4) then (if ((q00 x251000 x6).f4) < (x251000.length : Int) then ((slices_Index_int_int.f k ((q00 x251000 ((q00 x251000 x6).f4)).f5) x6).bind fun t257 => (if x5.length < 17592186044416 then (span_ranger_path.l0 k (x5 ++ [wrap64 ((wrap64 (2 * t257)) + 1)]) ((q00 x251000 x6).f4) x251000 x251001) else (none))) else (none)) else (none))) else (none)) else (none)) else ((slices_Reverse_int_int.f k x5).bind fun t262 => (some t262))
def span_ranger_path.f (k : Nat) (l0_0 : List (S43)) (a0_1 : Bool) (a1_0 : Int) (a1_1 : Int) : Option (List Int) := span_ranger_path.l0 k (([wrap64 (2 * a1_1)] : List Int)) a1_0 l0_0 a0_1
theorem span_ranger_path.mono_l : ∀ k, (∀ y0 y1 y2 y3, LeO (span_ranger_path.l0 k y0 y1 y2 y3) (span_ranger_path.l0 (k + 1) y0 y1 y2 y3))
 | 0 => fun _ _ _ _ r h => by simp [span_ranger_path.l0] at h
 | k + 1 => by
  have ih0 := span_ranger_path.mono_l k
  ·intro y0 y1 y2 y3
   unfold span_ranger_path.l0
   repeat' first | with_reducible first | apply ih0 | apply slices_Index_int_int.mono | apply slices_Reverse_int_int.mono | exact LeO.refl _ | exact LeO.none _ | refine LeO.ite ?_ ?_ | refine LeO.bind ?_ (fun _ => ?_) | (first | apply ih0 | apply slices_Index_int_int.mono | apply slices_Reverse_int_int.mono | exact LeO.none _ | refine LeO.ite ?_ ?_ | refine LeO.bind ?_ (fun _ => ?_))
theorem span_ranger_path.mono : ∀ a0 a1 a2 a3 k, LeO (span_ranger_path.f k a0 a1 a2 a3) (span_ranger_path.f (k + 1) a0 a1 a2 a3) := by
 intro a0 a1 a2 a3 k
 have ih0 := span_ranger_path.mono_l k
 unfold span_ranger_path.f
 repeat' first | with_reducible first | apply ih0 | apply slices_Index_int_int.mono | apply slices_Reverse_int_int.mono | exact LeO.refl _ | exact LeO.none _ | refine LeO.ite ?_ ?_ | refine LeO.bind ?_ (fun _ => ?_) | (first | apply ih0 | apply slices_Index_int_int.mono | apply slices_Reverse_int_int.mono | exact LeO.none _ | refine LeO.ite ?_ ?_ | refine LeO.bind ?_ (fun _ => ?_))
set_option maxHeartbeats 8000000 in
set_option maxRecDepth 100000 in
theorem span_ranger_path.core (k : Nat) (A0_0 : Option Addr) (c0_0 : Nat) (l0_0 : List (S43)) (a0_1 : Bool) (a1_0 : Int) (a1_1 : Int) (r : List Int) (w : World) (hr0_0 : Kd.C k43 w A0_0 l0_0.length l0_0) (hc0_0 : l0_0.length ≤ c0_0) (h : span_ranger_path.f k l0_0 a0_1 a1_0 a1_1 = some r) :
 Calls Tryd.prog 128 #[.agg #[.slice A0_0 l0_0.length c0_0, .bool a0_1], .agg #[.int .i64 a1_0, .int .i64 a1_1]] w fun e w' => ∃ v0_ : Value, e = .returned (v0_) ∧ (r = [] → v0_ = .slice none 0 0) ∧ Kd.R (Kd.int .i64) 3 w' w.heap.size (fun _ => True) v0_ r ∧ Below w.heap.size w w' := by
 have hu124 := Tryd.underlying124
 have hu50 := Tryd.underlying50
 have HR0_0 := aS hr0_0
 have HC0_0 := aS hc0_0
 clear hr0_0 hc0_0
 have HB := aS (Below.refl w.heap.size w)
 have H := h; clear h; unfold span_ranger_path.f at H
 obtain ⟨y252, hy252⟩ : ∃ y_ : List Int, y_ = (([wrap64 (2 * a1_1)] : List Int)) := ⟨_, rfl⟩
 replace H : (span_ranger_path.l0 k y252 a1_0 l0_0 a0_1) = some r := by first | (rw [hy252]; with_reducible exact H) | (have H2_ := (Option.bind_some _ _).symm.trans H; rw [hy252]; with_reducible exact H2_) | (have H2_ := (Option.bind_some _ _).symm.trans H; with_reducible exact H2_) | with_reducible exact H | (rw [hy252]; exact H) | exact H
 have HNE0 := aS (show y252 ≠ [] from by rw [hy252]; simp)
 have Ny252 := aS hy252
 clear hy252
 have H' := aS H
 clear H
 go_enter Tryd.func128, Tryd.ntmps128
 go_wp2_with (first | ((with_reducible refine q07 (N := 2) rfl ?_); refine box0 rfl (N := 2) rfl (cs := #[.slice A0_0 l0_0.length c0_0, .bool a0_1]) (t := 124) zh (z7 HB.out) ?_; clear HB; intro gb250 w3 BK250 GW250 HB; have GE250 := GW250) | ((with_reducible refine q07 (N := 3) rfl ?_); refine q0j ?hg (N := 3) ?hd (cs := #[.int .i64 a1_0, .int .i64 a1_1]) (t := 50) ?hr ?_; (case hd => rfl); (case hg => rfl); (case hr => first | (go_simp; done) | (go_simp; rfl)); intro gb251 hg w4 hbox hb; have n0_ := aS (q01 (g := gb250) (o := .cells #[.slice A0_0 l0_0.length c0_0, .bool a0_1] 124 (0, 0)) (za BK250.out) hb); have n1_ := aS (q02 (z6 HB.out GE250.out) hb); have n2_ := aS (hbox); have n3_ := aS ((by rw [hg]; exact (q06 (z6 HB.out GE250.out)) : w.heap.size ≤ gb251)); have n4_ := aS ((by rw [hg]; exact (q06 (z6 HB.out GE250.out)) : w.heap.size ≤ gb251)); have n5_ := aS ((by rw [hg]; exact Nat.ne_of_lt (q0i (g := gb250) (o := .cells #[.slice A0_0 l0_0.length c0_0, .bool a0_1] 124 (0, 0)) (za BK250.out)) : gb250 ≠ gb251)); have n6_ := aS ((by rw [hg]; exact Nat.ne_of_gt (q0i (g := gb250) (o := .cells #[.slice A0_0 l0_0.length c0_0, .bool a0_1] 124 (0, 0)) (za BK250.out)) : gb251 ≠ gb250)); clear BK250; clear HB; have BK250 := n0_; have HB := n1_; have BK251 := n2_; have GW251 := n3_; have GE251 := n4_; have NB250_251 := n5_; have NB251_250 := n6_; clear n0_ n1_ n2_ n3_ n4_ n5_ n6_; clear hb hbox hg; have hnb5 := NB251_250.out; have hnc5 := NB250_251.out; obtain ⟨hcz6_0, hcz6_1, hfz6_0, hfz6_1⟩ := bk2 BK251.out) | ((with_reducible refine q07 (N := 11) rfl ?_); refine Kd.R_lit (Kd.int .i64) _ 3 ?hg (N := 11) ?hd (xs := ([wrap64 (2 * a1_1)] : List Int)) (inner := [.int .i64 (wrap64 (2 * a1_1))]) (ok := fun _ => True) (okp := fun _ => True) ?hr ?hp (fun _ hk => hk) trivial (Below.refl _ _) (Nat.le_refl _) (by simp) ?_; (case hd => rfl); (case hg => rfl); (case hr => first | (go_simp; done) | (go_simp; rfl)); (case hp => exact (Reps.one (show Kd.M (Kd.int .i64) _ _ _ (wrap64 (2 * a1_1)) [.int .i64 (wrap64 (2 * a1_1))] from rfl) (Reps.none _ _))); intro v253 w7 ho8 hb hg_ hnew_; clear hg_ hnew_; (first | rw [← Ny252.out] at ho8 | (simp only [Int.reduceToNat] at ho8; rw [← Ny252.out] at ho8)); have HO254 := aS (Kd.R_lower ho8 (q06 (by repeat (first | (with_reducible first | exact HB.out | apply bA | apply bN | apply bD | refine bS ?_ GE250.out | refine bS ?_ GE251.out) | exact HB.out)))); replace BK250 := aS (q01 (g := gb250) (o := .cells #[.slice A0_0 l0_0.length c0_0, .bool a0_1] 124 (0, 0)) (za BK250.out) hb); replace BK251 := aS (q01 (g := gb251) (o := .cells #[.int .i64 a1_0, .int .i64 a1_1] 50 (0, 0)) (za BK251.out) hb); replace HB := aS (q02 (by repeat (first | (with_reducible first | exact HB.out | apply bA | apply bN | apply bD | refine bS ?_ GE250.out | refine bS ?_ GE251.out) | exact HB.out)) hb); clear hb ho8; obtain ⟨hcz9_0, hcz9_1, hfz9_0, hfz9_1⟩ := bk2 BK251.out))
 go_loopg [5, 6] k (fun kq v5 v6 w' => ∃ (x5_1 : List Int) (x6_1 : Int), v6 = .int .i64 x6_1 ∧ Aside0 (x5_1 ≠ []) ∧ Aside0 (span_ranger_path.l0 kq x5_1 x6_1 l0_0 a0_1 = some r) ∧ Aside0 (kq ≤ k) ∧ Aside0 (Kd.R (Kd.int .i64) 3 w' w.heap.size (fun _ => True) v5 x5_1) ∧ Aside0 (w'.heap[gb250]? = some (.cells #[(.slice A0_0 l0_0.length c0_0), .bool a0_1] 124 (0, 0))) ∧ Aside0 (w'.heap[gb251]? = some (.cells #[.int .i64 a1_0, .int .i64 a1_1] 50 (0, 0))) ∧ Aside0 (Below w.heap.size w w'))
 case atStart => exact ⟨(y252), (a1_0), zi, HNE0, H', ⟨Nat.le_refl _⟩, ⟨by (with_reducible repeat (first | apply rA | apply rN | apply rD)); exact HO254.out⟩, ⟨by (with_reducible repeat (first | refine kN ?_ _ | refine kD ?_ | refine kA ?_ _)); exact BK250.out⟩, ⟨by (with_reducible repeat (first | refine kN ?_ _ | refine kD ?_ | refine kA ?_ _)); exact BK251.out⟩, ⟨by repeat (first | (with_reducible first | exact HB.out | apply bA | apply bN | apply bD | refine bS ?_ GE250.out | refine bS ?_ GE251.out) | exact HB.out)⟩⟩
 case round =>
  clear H'
  obtain ⟨x5_1, x6_1, rfl, HNE, HA, HK1, HO_5, BK250, BK251, HB⟩ := hrel
  cases gk with
  | zero => exact absurd HA.out (by simp [span_ranger_path.l0])
  | succ k1 =>
   have H := HA.out
   clear HA
   simp only [span_ranger_path.l0] at H
   refine iT H ?p10 ?n10 <;> clear H
   case' p10 => intro c10b0 H; refine iLp H ?_; clear H; intro c11b0 H; refine iTp H ?_; clear H; intro c12b0 H; refine iT H ?p13 ?n13 <;> clear H
   case' p13 => intro c13b0 H
   case' n13 => intro c13b0 H; refine iLp H ?_; clear H; intro c16b0 H; refine iTp H ?_; clear H; intro c17b0 H; replace H := iB H; obtain ⟨t257, A18, H⟩ := H; refine iGp H ?_; clear H; intro c19 H
   case' n10 => intro c10b0 H
   case p13 =>
    obtain rfl := Option.some.inj H
    have hnb14 := NB250_251.out
    have hnc14 := NB251_250.out
    obtain ⟨hczL_0, hczL_1, hfzL_0, hfzL_1⟩ := bk2 BK250.out
    obtain ⟨ad255, A255_2, c255_2, A255_5, c255_5, e255, hx255_0, hx255_1, hx255_2, hx255_3, hx255_4, hx255_5, HC255_2, HR255_2, HC255_5, HR255_5, p255, q255⟩ := q0o HB.out HR0_0.out x6_1 zb zb
    cases e255
    go_wp2
    go_ret
    exact ⟨_, by first | rfl | (simp [q05, q04] <;> rfl) | (simp [*, q05, q04] <;> rfl), (by first | exact fun _ => rfl | rfl), by first | exact Kd.R_nil _ _ _ _ _ | exact Kd.N_nil _ _ _ _ _ | exact Kd.V_nil _ _ _ _ _ | exact Kd.Q_nil _ _ _ _ _ | exact Kd.S_nil _ _ _ _ _, by repeat (first | (with_reducible first | exact HB.out | apply bA | apply bN | apply bD | refine bS ?_ GE250.out | refine bS ?_ GE251.out) | exact HB.out)⟩
   case n13 =>
    have LMc19 := aS c19
    clear c19
    obtain ⟨y258, hy258⟩ : ∃ y_ : List Int, y_ = (x5_1 ++ [wrap64 ((wrap64 (2 * t257)) + 1)]) := ⟨_, rfl⟩
    replace H : (span_ranger_path.l0 k1 y258 ((q00 l0_0 x6_1).f4) l0_0 a0_1) = some r := by first | (rw [hy258]; with_reducible exact H) | (have H2_ := (Option.bind_some _ _).symm.trans H; rw [hy258]; with_reducible exact H2_) | (have H2_ := (Option.bind_some _ _).symm.trans H; with_reducible exact H2_) | with_reducible exact H | (rw [hy258]; exact H) | exact H
    have HNE1 := aS (show y258 ≠ [] from by rw [hy258]; simp)
    have Ny258 := aS hy258
    clear hy258
    have H' := aS H
    clear H
    have hnb20 := NB250_251.out
    have hnc20 := NB251_250.out
    obtain ⟨hczL_0, hczL_1, hfzL_0, hfzL_1⟩ := bk2 BK250.out
    obtain ⟨ad255, A255_2, c255_2, A255_5, c255_5, e255, hx255_0, hx255_1, hx255_2, hx255_3, hx255_4, hx255_5, HC255_2, HR255_2, HC255_5, HR255_5, p255, q255⟩ := q0o HB.out HR0_0.out x6_1 zb zb
    cases e255
    obtain ⟨ad256, A256_2, c256_2, A256_5, c256_5, e256, hx256_0, hx256_1, hx256_2, hx256_3, hx256_4, hx256_5, HC256_2, HR256_2, HC256_5, HR256_5, p256, q256⟩ := q0o HB.out HR0_0.out ((q00 l0_0 x6_1).f4) zb zb
    obtain rfl : ad255 = ad256 := (by injection e256)
    go_wp2_with (first | ((with_reducible refine q08 (f := 77) rfl ?_); refine q0n (some 41) rfl rfl Tryd.func77 (by kernel_rfl) rfl #[.slice A256_5 ((q00 l0_0 ((q00 l0_0 x6_1).f4)).f5).length c256_5, .int .i64 x6_1] rfl zc ?_; (with_reducible refine (slices_Index_int_int.calls k1 _ _ ((q00 l0_0 ((q00 l0_0 x6_1).f4)).f5) x6_1 t257 _ ?side1 ?side2 A18.out).mono ?_); (case side1 => repeat (first | exact (Kd.C_below HR256_5.out HB.out) | (with_reducible refine cA ?_ _) | (with_reducible refine cN ?_ _) | (with_reducible refine cD ?_))); (case side2 => exact HC256_5.out); rintro e w' ⟨rfl, ⟨nd, rfl⟩⟩; refine ⟨_, rfl, ?_⟩) | ((with_reducible refine q17 (b := .append) (xs := #[.tmp 32, .tmp 44]) rfl ?_); at_builtin; refine Kd.R_append (Kd.int .i64) (w0 := w) w.heap.size rfl (.tmp 32) (.tmp 44) 31 3 (.int .i64 0) 8 rfl Tryd.underlying31 info3 rfl (by decide) (by omega) u5 x5_1 (wrap64 ((wrap64 (2 * t257)) + 1)) [.int .i64 (wrap64 ((wrap64 (2 * t257)) + 1))] (fun _ => True) (fun _ => False) rfl rfl ?aP (fun _ hk => hk.elim) ?aF ?aO ?aB ?aS ?aL ?_; (case aP => exact rfl); (case aB => exact (by repeat (first | (with_reducible first | exact HB.out | apply bA | apply bN | apply bD | refine bS ?_ GE250.out | refine bS ?_ GE251.out) | exact HB.out))); (case aF => exact (fun _ _ => trivial)); (case aO => exact (zf HO_5.out)); (case aS => exact (q06 (by repeat (first | (with_reducible first | exact HB.out | apply bA | apply bN | apply bD | refine bS ?_ GE250.out | refine bS ?_ GE251.out) | exact HB.out)))); (case aL => have := LMc19.out; omega); intro v259 w22 ho hb hg hat; rw [← Ny258.out] at ho; have n0_ := aS (q0q (g := gb250) (o := .cells #[.slice (some ad255) l0_0.length c0_0, .bool a0_1] 124 (0, 0)) (za BK250.out) hg (Kd.R_ne HO_5.out BK250.out (by decide))); have n1_ := aS (q0q (g := gb251) (o := .cells #[.int .i64 a1_0, .int .i64 a1_1] 50 (0, 0)) (za BK251.out) hg (Kd.R_ne HO_5.out BK251.out (by decide))); have n2_ := aS (hb); have n3_ := aS (ho); clear BK250; clear BK251; clear HB; clear HO_5; have BK250 := n0_; have BK251 := n1_; have HB := n2_; have HO260 := n3_; clear n0_ n1_ n2_ n3_; clear ho hb hg hat; obtain ⟨hczL_0, hczL_1, hfzL_0, hfzL_1⟩ := bk2 BK250.out; obtain ⟨ad261, A261_2, c261_2, A261_5, c261_5, e261, hx261_0, hx261_1, hx261_2, hx261_3, hx261_4, hx261_5, HC261_2, HR261_2, HC261_5, HR261_5, p261, q261⟩ := q0o HB.out HR0_0.out x6_1 zb zb; obtain rfl : ad255 = ad261 := (by injection e261)))
    go_roundg k1
    case measure => have := HK1.out; omega
    case rel => exact ⟨(y258), ((q00 l0_0 x6_1).f4), zi, HNE1, H', ⟨by have := HK1.out; omega⟩, ⟨by (with_reducible repeat (first | apply rA | apply rN | apply rD)); exact HO260.out⟩, ⟨by (with_reducible repeat (first | refine kN ?_ _ | refine kD ?_ | refine kA ?_ _)); exact BK250.out⟩, ⟨by (with_reducible repeat (first | refine kN ?_ _ | refine kD ?_ | refine kA ?_ _)); exact BK251.out⟩, ⟨by repeat (first | (with_reducible first | exact HB.out | apply bA | apply bN | apply bD | refine bS ?_ GE250.out | refine bS ?_ GE251.out) | exact HB.out)⟩⟩
   case n10 =>
    replace H := iB H
    obtain ⟨t262, A24, H⟩ := H
    obtain rfl := Option.some.inj H
    obtain ⟨Ao25, co25, eo25⟩ := Kd.R_slice HO_5.out
    subst eo25
    go_wp2_with (first | ((with_reducible refine q08 (f := 111) rfl ?_); refine q0n (some 47) rfl rfl Tryd.func111 (by kernel_rfl) rfl #[.slice Ao25 x5_1.length co25] rfl zc ?_; (with_reducible refine (slices_Reverse_int_int.calls k1 (fun k_ => some k_ = (.slice Ao25 x5_1.length co25 : Value).ownBlock) (.slice Ao25 x5_1.length co25) x5_1 t262 w _ ?side1 ?side2 A24.out).mono ?_); (case side1 => repeat (first | (with_reducible first | exact HB.out | apply bA | apply bN | apply bD | refine bS ?_ GE250.out | refine bS ?_ GE251.out) | exact HB.out)); (case side2 => exact Kd.R_tight rfl HO_5.out); rintro e w26 ⟨rfl, hy0, hb, hkp⟩; refine ⟨_, rfl, ?_⟩; have n0_ := aS (Kd.R_reok rfl hy0 (fun k_ e_ => HO_5.out.1 k_ e_)); have n1_ := aS (blk_kept (za BK250.out) hkp (fun hs_ => (fun e_ => (Kd.R_ne HO_5.out BK250.out (by decide)) e_) hs_)); have n2_ := aS (blk_kept (za BK251.out) hkp (fun hs_ => (fun e_ => (Kd.R_ne HO_5.out BK251.out (by decide)) e_) hs_)); have n3_ := aS (hb); clear HO_5; clear BK250; clear BK251; clear HB; have HO_5 := n0_; have BK250 := n1_; have BK251 := n2_; have HB := n3_; clear n0_ n1_ n2_ n3_; (try clear hb); (try clear hkp); (try clear hy0)))
    go_ret
    exact ⟨_, by first | rfl | (simp [q05, q04] <;> rfl) | (simp [*, q05, q04] <;> rfl), (fun e_ => absurd (List.length_eq_zero_iff.1 (by have h_ := (Kd.R_reads' HO_5.out).1; rw [e_] at h_; exact h_)) HNE.out), by (with_reducible repeat (first | apply rA | apply rN | apply rD)); exact HO_5.out, by repeat (first | (with_reducible first | exact HB.out | apply bA | apply bN | apply bD | refine bS ?_ GE250.out | refine bS ?_ GE251.out) | exact HB.out)⟩
theorem span_ranger_path.calls (k : Nat) (A0_0 : Option Addr) (c0_0 : Nat) (l0_0 : List (S43)) (a0_1 : Bool) (a1_0 : Int) (a1_1 : Int) (r : List Int) (w : World) (hr0_0 : Kd.C k43 w A0_0 l0_0.length l0_0) (hc0_0 : l0_0.length ≤ c0_0) (h : span_ranger_path.f k l0_0 a0_1 a1_0 a1_1 = some r) :
 Calls Tryd.prog 128 #[.agg #[.slice A0_0 l0_0.length c0_0, .bool a0_1], .agg #[.int .i64 a1_0, .int .i64 a1_1]] w fun e w' => ∃ v0_ : Value, e = .returned (v0_) ∧ Kd.R (Kd.int .i64) 3 w' w.heap.size (fun _ => True) v0_ r ∧ Below w.heap.size w w' :=
 (span_ranger_path.core k A0_0 c0_0 l0_0 a0_1 a1_0 a1_1 r w hr0_0 hc0_0 h).mono fun e w' ⟨v, a, _, b, c⟩ => ⟨v, a, b, c⟩
def span_ranger_room.f (l0_0 : List (S43)) (a0_1 : Bool) (a1 : Int) : Option (Int) := if 0 ≤ a1 then (if a1 < (l0_0.length : Int) then (if ((q00 l0_0 a1).f0) = 3 then (some (((q00 l0_0 a1).f3).size : Int)) else (if ((q00 l0_0 a1).f0) = 4 then (some (((q00 l0_0 a1).f3).size : Int)) else (some (((q00 l0_0 a1).f5).length : Int)))) else (none)) else (none)
set_option maxHeartbeats 8000000 in
set_option maxRecDepth 100000 in
theorem span_ranger_room.calls (A0_0 : Option Addr) (c0_0 : Nat) (l0_0 : List (S43)) (a0_1 : Bool) (a1 : Int) (r : Int) (w : World) (hr0_0 : Kd.C k43 w A0_0 l0_0.length l0_0) (hc0_0 : l0_0.length ≤ c0_0) (h : span_ranger_room.f l0_0 a0_1 a1 = some r) :
 Calls Tryd.prog 145 #[.agg #[.slice A0_0 l0_0.length c0_0, .bool a0_1], .int .i64 a1] w fun e w' => e = .returned (.int .i64 r) ∧ Below w.heap.size w w' := by
 have hu124 := Tryd.underlying124
 have hu43 := Tryd.underlying43
 have HR0_0 := aS hr0_0
 have HC0_0 := aS hc0_0
 clear hr0_0 hc0_0
 have HB := aS (Below.refl w.heap.size w)
 have H := h; clear h; unfold span_ranger_room.f at H
 refine iLp H ?_; clear H; intro c3b0 H
 refine iTp H ?_; clear H; intro c4b0 H
 refine iE H ?p5 ?n5 <;> clear H
 case' p5 => intro c5b0 c5b1 H
 case' n5 => intro c5 c5b0 c5b1 H; refine iE H ?p11 ?n11 <;> clear H
 case' p11 => intro c11b0 c11b1 H
 case' n11 => intro c11 c11b0 c11b1 H
 case p5 =>
  obtain rfl := Option.some.inj H
  go_enter Tryd.func145, Tryd.ntmps145
  go_wp2_with (first | ((with_reducible refine q07 (N := 2) rfl ?_); refine box0 rfl (N := 2) rfl (cs := #[.slice A0_0 l0_0.length c0_0, .bool a0_1]) (t := 124) zh (z7 HB.out) ?_; clear HB; intro gb263 w6 BK263 GW263 HB; have GE263 := GW263; obtain ⟨hczL_0, hczL_1, hfzL_0, hfzL_1⟩ := bk2 BK263.out; obtain ⟨ad264, A264_2, c264_2, A264_5, c264_5, e264, hx264_0, hx264_1, hx264_2, hx264_3, hx264_4, hx264_5, HC264_2, HR264_2, HC264_5, HR264_5, p264, q264⟩ := q0o HB.out HR0_0.out a1 zb zb; cases e264) | ((with_reducible refine q07 (N := 5) rfl ?_); refine q0j ?hg (N := 5) ?hd (cs := #[.int .i64 0, .string (⟨#[]⟩ : ByteArray), .slice none 0 0, .string (⟨#[]⟩ : ByteArray), .int .i64 0, .slice none 0 0]) (t := 43) ?hr ?_; (case hd => rfl); (case hg => rfl); (case hr => first | (go_simp; done) | (go_simp; rfl)); intro gb265 hg w8 hbox hb; have n0_ := aS (q01 (g := gb263) (o := .cells #[.slice (some ad264) l0_0.length c0_0, .bool a0_1] 124 (0, 0)) (za BK263.out) hb); have n1_ := aS (q02 (z6 HB.out GE263.out) hb); have n2_ := aS (hbox); have n3_ := aS ((by rw [hg]; exact (q06 (z6 HB.out GE263.out)) : w.heap.size ≤ gb265)); have n4_ := aS ((by rw [hg]; exact (q06 (z6 HB.out GE263.out)) : w.heap.size ≤ gb265)); have n5_ := aS ((by rw [hg]; exact Nat.ne_of_lt (q0i (g := gb263) (o := .cells #[.slice (some ad264) l0_0.length c0_0, .bool a0_1] 124 (0, 0)) (za BK263.out)) : gb263 ≠ gb265)); have n6_ := aS ((by rw [hg]; exact Nat.ne_of_gt (q0i (g := gb263) (o := .cells #[.slice (some ad264) l0_0.length c0_0, .bool a0_1] 124 (0, 0)) (za BK263.out)) : gb265 ≠ gb263)); clear BK263; clear HB; have BK263 := n0_; have HB := n1_; have BK265 := n2_; have GW265 := n3_; have GE265 := n4_; have NB263_265 := n5_; have NB265_263 := n6_; clear n0_ n1_ n2_ n3_ n4_ n5_ n6_; clear hb hbox hg; have hnb9 := NB265_263.out; have hnc9 := NB263_265.out; obtain ⟨hczL_0, hczL_1, hczL_2, hczL_3, hczL_4, hczL_5, hfzL_0, hfzL_1, hfzL_2, hfzL_3, hfzL_4, hfzL_5⟩ := bk6 BK265.out))
  go_ret
  exact ⟨by first | rfl | (simp [q05, q04] <;> rfl) | (simp [*, q05, q04] <;> rfl), by repeat (first | (with_reducible first | exact HB.out | apply bA | apply bN | apply bD | refine bS ?_ GE263.out | refine bS ?_ GE265.out) | exact HB.out)⟩
 case p11 =>
  obtain rfl := Option.some.inj H
  go_enter Tryd.func145, Tryd.ntmps145
  go_wp2_with (first | ((with_reducible refine q07 (N := 2) rfl ?_); refine box0 rfl (N := 2) rfl (cs := #[.slice A0_0 l0_0.length c0_0, .bool a0_1]) (t := 124) zh (z7 HB.out) ?_; clear HB; intro gb263 w12 BK263 GW263 HB; have GE263 := GW263; obtain ⟨hczL_0, hczL_1, hfzL_0, hfzL_1⟩ := bk2 BK263.out; obtain ⟨ad264, A264_2, c264_2, A264_5, c264_5, e264, hx264_0, hx264_1, hx264_2, hx264_3, hx264_4, hx264_5, HC264_2, HR264_2, HC264_5, HR264_5, p264, q264⟩ := q0o HB.out HR0_0.out a1 zb zb; cases e264) | ((with_reducible refine q07 (N := 5) rfl ?_); refine q0j ?hg (N := 5) ?hd (cs := #[.int .i64 0, .string (⟨#[]⟩ : ByteArray), .slice none 0 0, .string (⟨#[]⟩ : ByteArray), .int .i64 0, .slice none 0 0]) (t := 43) ?hr ?_; (case hd => rfl); (case hg => rfl); (case hr => first | (go_simp; done) | (go_simp; rfl)); intro gb265 hg w14 hbox hb; have n0_ := aS (q01 (g := gb263) (o := .cells #[.slice (some ad264) l0_0.length c0_0, .bool a0_1] 124 (0, 0)) (za BK263.out) hb); have n1_ := aS (q02 (z6 HB.out GE263.out) hb); have n2_ := aS (hbox); have n3_ := aS ((by rw [hg]; exact (q06 (z6 HB.out GE263.out)) : w.heap.size ≤ gb265)); have n4_ := aS ((by rw [hg]; exact (q06 (z6 HB.out GE263.out)) : w.heap.size ≤ gb265)); have n5_ := aS ((by rw [hg]; exact Nat.ne_of_lt (q0i (g := gb263) (o := .cells #[.slice (some ad264) l0_0.length c0_0, .bool a0_1] 124 (0, 0)) (za BK263.out)) : gb263 ≠ gb265)); have n6_ := aS ((by rw [hg]; exact Nat.ne_of_gt (q0i (g := gb263) (o := .cells #[.slice (some ad264) l0_0.length c0_0, .bool a0_1] 124 (0, 0)) (za BK263.out)) : gb265 ≠ gb263)); clear BK263; clear HB; have BK263 := n0_; have HB := n1_; have BK265 := n2_; have GW265 := n3_; have GE265 := n4_; have NB263_265 := n5_; have NB265_263 := n6_; clear n0_ n1_ n2_ n3_ n4_ n5_ n6_; clear hb hbox hg; have hnb15 := NB265_263.out; have hnc15 := NB263_265.out; obtain ⟨hczL_0, hczL_1, hczL_2, hczL_3, hczL_4, hczL_5, hfzL_0, hfzL_1, hfzL_2, hfzL_3, hfzL_4, hfzL_5⟩ := bk6 BK265.out))
  go_ret
  exact ⟨by first | rfl | (simp [q05, q04] <;> rfl) | (simp [*, q05, q04] <;> rfl), by repeat (first | (with_reducible first | exact HB.out | apply bA | apply bN | apply bD | refine bS ?_ GE263.out | refine bS ?_ GE265.out) | exact HB.out)⟩
 case n11 =>
  obtain rfl := Option.some.inj H
  go_enter Tryd.func145, Tryd.ntmps145
  go_wp2_with (first | ((with_reducible refine q07 (N := 2) rfl ?_); refine box0 rfl (N := 2) rfl (cs := #[.slice A0_0 l0_0.length c0_0, .bool a0_1]) (t := 124) zh (z7 HB.out) ?_; clear HB; intro gb263 w17 BK263 GW263 HB; have GE263 := GW263; obtain ⟨hczL_0, hczL_1, hfzL_0, hfzL_1⟩ := bk2 BK263.out; obtain ⟨ad264, A264_2, c264_2, A264_5, c264_5, e264, hx264_0, hx264_1, hx264_2, hx264_3, hx264_4, hx264_5, HC264_2, HR264_2, HC264_5, HR264_5, p264, q264⟩ := q0o HB.out HR0_0.out a1 zb zb; cases e264) | ((with_reducible refine q07 (N := 5) rfl ?_); refine q0j ?hg (N := 5) ?hd (cs := #[.int .i64 0, .string (⟨#[]⟩ : ByteArray), .slice none 0 0, .string (⟨#[]⟩ : ByteArray), .int .i64 0, .slice none 0 0]) (t := 43) ?hr ?_; (case hd => rfl); (case hg => rfl); (case hr => first | (go_simp; done) | (go_simp; rfl)); intro gb265 hg w19 hbox hb; have n0_ := aS (q01 (g := gb263) (o := .cells #[.slice (some ad264) l0_0.length c0_0, .bool a0_1] 124 (0, 0)) (za BK263.out) hb); have n1_ := aS (q02 (z6 HB.out GE263.out) hb); have n2_ := aS (hbox); have n3_ := aS ((by rw [hg]; exact (q06 (z6 HB.out GE263.out)) : w.heap.size ≤ gb265)); have n4_ := aS ((by rw [hg]; exact (q06 (z6 HB.out GE263.out)) : w.heap.size ≤ gb265)); have n5_ := aS ((by rw [hg]; exact Nat.ne_of_lt (q0i (g := gb263) (o := .cells #[.slice (some ad264) l0_0.length c0_0, .bool a0_1] 124 (0, 0)) (za BK263.out)) : gb263 ≠ gb265)); have n6_ := aS ((by rw [hg]; exact Nat.ne_of_gt (q0i (g := gb263) (o := .cells #[.slice (some ad264) l0_0.length c0_0, .bool a0_1] 124 (0, 0)) (za BK263.out)) : gb265 ≠ gb263)); clear BK263; clear HB; have BK263 := n0_; have HB := n1_; have BK265 := n2_; have GW265 := n3_; have GE265 := n4_; have NB263_265 := n5_; have NB265_263 := n6_; clear n0_ n1_ n2_ n3_ n4_ n5_ n6_; clear hb hbox hg; have hnb20 := NB265_263.out; have hnc20 := NB263_265.out; obtain ⟨hczL_0, hczL_1, hczL_2, hczL_3, hczL_4, hczL_5, hfzL_0, hfzL_1, hfzL_2, hfzL_3, hfzL_4, hfzL_5⟩ := bk6 BK265.out))
  go_ret
  exact ⟨by first | rfl | (simp [q05, q04] <;> rfl) | (simp [*, q05, q04] <;> rfl), by repeat (first | (with_reducible first | exact HB.out | apply bA | apply bN | apply bD | refine bS ?_ GE263.out | refine bS ?_ GE265.out) | exact HB.out)⟩
def span_ranger_point.j0 : Nat → Bool → List (S43) → Bool → Int → Int → Option (Int)
 | 0, _, _, _, _, _ => none
 | k + 1, x5, x267000, x267001, x268000, x268001 => if x5 = true then (some 1) else ((span_ranger_path.f k x267000 x267001 x268000 x268001).bind fun t269 => (if t269.length = 0 then (some 5) else (some 0)))
def span_ranger_point.f (k : Nat) (l0_0 : List (S43)) (a0_1 : Bool) (a1_0 : Int) (a1_1 : Int) : Option (Int) := if a1_0 < 0 then (span_ranger_point.j0 k true l0_0 a0_1 a1_0 a1_1) else (if a1_0 ≥ (l0_0.length : Int) then (span_ranger_point.j0 k true l0_0 a0_1 a1_0 a1_1) else (if a1_1 < 0 then (span_ranger_point.j0 k true l0_0 a0_1 a1_0 a1_1) else ((span_ranger_room.f l0_0 a0_1 a1_0).bind fun t268 => (span_ranger_point.j0 k (decide (a1_1 > t268)) l0_0 a0_1 a1_0 a1_1))))
theorem span_ranger_point.mono_l : ∀ k, (∀ y0 y1 y2 y3 y4, LeO (span_ranger_point.j0 k y0 y1 y2 y3 y4) (span_ranger_point.j0 (k + 1) y0 y1 y2 y3 y4))
 | 0 => fun _ _ _ _ _ r h => by simp [span_ranger_point.j0] at h
 | k + 1 => by
  have ih0 := span_ranger_point.mono_l k
  ·intro y0 y1 y2 y3 y4
   unfold span_ranger_point.j0
   repeat' first | with_reducible first | apply ih0 | apply span_ranger_path.mono | exact LeO.refl _ | exact LeO.none _ | refine LeO.ite ?_ ?_ | refine LeO.bind ?_ (fun _ => ?_) | (first | apply ih0 | apply span_ranger_path.mono | exact LeO.none _ | refine LeO.ite ?_ ?_ | refine LeO.bind ?_ (fun _ => ?_))
theorem span_ranger_point.mono : ∀ a0 a1 a2 a3 k, LeO (span_ranger_point.f k a0 a1 a2 a3) (span_ranger_point.f (k + 1) a0 a1 a2 a3) := by
 intro a0 a1 a2 a3 k
 have ih0 := span_ranger_point.mono_l k
 unfold span_ranger_point.f
 repeat' first | with_reducible first | apply ih0 | apply span_ranger_path.mono | exact LeO.refl _ | exact LeO.none _ | refine LeO.ite ?_ ?_ | refine LeO.bind ?_ (fun _ => ?_) | (first | apply ih0 | apply span_ranger_path.mono | exact LeO.none _ | refine LeO.ite ?_ ?_ | refine LeO.bind ?_ (fun _ => ?_))
def span_ranger_point.T1 : Bool × List (List Nat × List Nat) := (true, [([], []), ([0], [0]), ([1], [1]), ([2], [2]), ([3], [3]), ([4, 3], [3, 4]), ([3], [3]), ([6, 3], [3, 6]), ([7, 3], [3, 7]), ([8, 3], [3, 8]), ([5, 9, 3], [3, 5, 9]), ([3, 10], [3, 10]), ([11, 3], [11]), ([12], [12]), ([13, 12], [12, 13]), ([14, 12], [12, 14]), ([12, 15], [12, 15]), ([16, 12], [16]), ([17], [17]), ([18, 17], [17, 18]), ([17], [17]), ([17], [17]), ([21, 17], [17, 21]), ([20, 22, 17, 17], [17, 20, 22]), ([19, 23, 17], [17, 19, 23]), ([17, 24], [17, 24]), ([25, 23], [25])])
def span_ranger_point.B1 : List Nat := [0, 1, 3, 7, 15, 31, 15, 79, 207, 463, 1023, 2047, 4095, 8191, 16383, 32767, 65535, 131071, 262143, 524287, 262143, 262143, 2359295, 7602175, 16777215, 33554431, 67108863]
theorem span_ranger_point.tab1 : rtab .any (opsOf Tryd.f125 1) = span_ranger_point.T1 := by kernel_rfl
theorem span_ranger_point.bits1 : waitsOk span_ranger_point.T1.2 span_ranger_point.B1 = true := by kernel_rfl
set_option maxHeartbeats 8000000 in
set_option maxRecDepth 100000 in
theorem span_ranger_point.calls (k : Nat) (A0_0 : Option Addr) (c0_0 : Nat) (l0_0 : List (S43)) (a0_1 : Bool) (a1_0 : Int) (a1_1 : Int) (r : Int) (w : World) (hr0_0 : Kd.C k43 w A0_0 l0_0.length l0_0) (hc0_0 : l0_0.length ≤ c0_0) (h : span_ranger_point.f k l0_0 a0_1 a1_0 a1_1 = some r) :
 Calls Tryd.prog 125 #[.agg #[.slice A0_0 l0_0.length c0_0, .bool a0_1], .agg #[.int .i64 a1_0, .int .i64 a1_1]] w fun e w' => e = .returned (.int .i64 r) ∧ Below w.heap.size w w' := by
 have hu124 := Tryd.underlying124
 have hu50 := Tryd.underlying50
 have qnil : ∀ (w : World) (a : Option Addr) (n c : Nat), (binOp .eql 31 (.slice a n c) (.slice none 0 0)).run Tryd.prog w = .ok (.bool a.isNone) w := fun w a n c => Lib.run_eql_slice_nil w _ _ a n c 0 0 Tryd.underlying31
 have HR0_0 := aS hr0_0
 have HC0_0 := aS hc0_0
 clear hr0_0 hc0_0
 have HB := aS (Below.refl w.heap.size w)
 have H := h; clear h; unfold span_ranger_point.f at H
 have HC3 := aS H
 clear H
 go_enter Tryd.func125, Tryd.ntmps125
 go_upto_region 1 with (first | ((with_reducible refine q07 (N := 2) rfl ?_); (try (refine q0z (by rfl) ?_; dsimp only)); refine box0 rfl (N := 2) rfl (cs := #[.slice A0_0 l0_0.length c0_0, .bool a0_1]) (t := 124) zh (z7 HB.out) ?_; clear HB; intro gb266 w4 BK266 GW266 HB; have GE266 := GW266) | ((with_reducible refine q07 (N := 3) rfl ?_); (try (refine q0z (by rfl) ?_; dsimp only)); refine q0j ?hg (N := 3) ?hd (cs := #[.int .i64 a1_0, .int .i64 a1_1]) (t := 50) ?hr ?_; (case hd => rfl); (case hg => rfl); (case hr => first | (go_simp; done) | (go_simp; rfl)); intro gb267 hg w5 hbox hb; have n0_ := aS (q01 (g := gb266) (o := .cells #[.slice A0_0 l0_0.length c0_0, .bool a0_1] 124 (0, 0)) (za BK266.out) hb); have n1_ := aS (q02 (z6 HB.out GE266.out) hb); have n2_ := aS (hbox); have n3_ := aS ((by rw [hg]; exact (q06 (z6 HB.out GE266.out)) : w.heap.size ≤ gb267)); have n4_ := aS ((by rw [hg]; exact (q06 (z6 HB.out GE266.out)) : w.heap.size ≤ gb267)); have n5_ := aS ((by rw [hg]; exact Nat.ne_of_lt (q0i (g := gb266) (o := .cells #[.slice A0_0 l0_0.length c0_0, .bool a0_1] 124 (0, 0)) (za BK266.out)) : gb266 ≠ gb267)); have n6_ := aS ((by rw [hg]; exact Nat.ne_of_gt (q0i (g := gb266) (o := .cells #[.slice A0_0 l0_0.length c0_0, .bool a0_1] 124 (0, 0)) (za BK266.out)) : gb267 ≠ gb266)); clear BK266; clear HB; have BK266 := n0_; have HB := n1_; have BK267 := n2_; have GW267 := n3_; have GE267 := n4_; have NB266_267 := n5_; have NB267_266 := n6_; clear n0_ n1_ n2_ n3_ n4_ n5_ n6_; clear hb hbox hg))
 (try simp only [Act.put, s1, s2, s3])
 go_cut [5] (fun v5 wc => ∃ (kq : Nat) (x5_2 : Bool), v5 = .bool x5_2 ∧ Aside0 (span_ranger_point.j0 kq x5_2 l0_0 a0_1 a1_0 a1_1 = some r) ∧ Aside0 (kq ≤ k) ∧ Aside0 (wc.heap[gb266]? = some (.cells #[(.slice A0_0 l0_0.length c0_0), .bool a0_1] 124 (0, 0))) ∧ Aside0 (wc.heap[gb267]? = some (.cells #[.int .i64 a1_0, .int .i64 a1_1] 50 (0, 0))) ∧ Aside0 (Below w.heap.size w wc))
 case first =>
  have H := HC3.out
  clear HC3
  refine iT H ?p6 ?n6 <;> clear H
  case' p6 => intro c6b0 H
  case' n6 => intro c6b0 H; (first | rw [c6b0] | (simp only [q09, q0a]; rw [c6b0]) | skip); refine iL H ?p8 ?n8 <;> clear H
  case' p8 => intro c8b0 H
  case' n8 => intro c8b0 H; refine iT H ?p10 ?n10 <;> clear H
  case' p10 => intro c10b0 H
  case' n10 => intro c10b0 H
  case p6 =>
   (first | rw [c6b0] | (simp only [q09, q0a]; rw [c6b0]) | skip)
   have H' := aS H
   clear H
   try go_wp2
   have n0_ := aS (q0v BK266.out)
   have n1_ := aS (q0v BK267.out)
   have n2_ := aS (q0t HB.out)
   clear BK266
   clear BK267
   clear HB
   have BK266 := n0_
   have BK267 := n1_
   have HB := n2_
   clear n0_ n1_ n2_
   refine start_ (n := 27) (S := fun w' => w'.cell? ⟨gb267, 0, none⟩ = some (.int .i64 a1_0) ∧ w'.cell? ⟨gb267, 1, none⟩ = some (.int .i64 a1_1)) (ds := []) #[false, false, false, false, false, false, false, false, false, false, false, false, false, false, false, false, false, false, false, false, false, false, false, false, false, false, false] (by kernel_rfl) rfl rfl ⟨(q03 BK267.out 0).trans rfl, (q03 BK267.out 1).trans rfl⟩ (fun hHeld => ?_); refine q14 span_ranger_point.tab1 span_ranger_point.bits1 (fun HT_ HW_ => ?_)
   generalize w5.drew = w7 at BK266 BK267 HB hHeld ⊢
   refine q0e (i := 0) (N := some 6) (v := ?_) (a' := ?_) #[true, false, false, false, false, false, false, false, false, false, false, false, false, false, false, false, false, false, false, false, false, false, false, false, false, false, false] rfl rfl (q0b HT_.out (by kernel_rfl)) (fun _ _ _ h => h) (Or.inl ⟨by rfl, ?_⟩) ?_ ?_
   rotate_left
   ·intro w'
    go_simp
    with_reducible rfl
   rotate_left
   ·simp only [Act.put, s1, s2, s3, q09, q0a]
    rfl
   refine take_ (i := 1) (N := some 7) (v := ?_) (a' := ?_) #[true, true, false, false, false, false, false, false, false, false, false, false, false, false, false, false, false, false, false, false, false, false, false, false, false, false, false] rfl rfl (q0m HT_.out HW_.out (by kernel_rfl)) (fun _ _ _ h => h) (Or.inl ⟨by rfl, ?_⟩) hHeld ?_ ?_
   rotate_left
   ·rintro w' ⟨s0, s1⟩
    go_simp
    with_reducible rfl
   rotate_left
   ·simp only [Act.put, s1, s2, s3, q09, q0a]
    rfl
   refine q0e (i := 2) (N := some 8) (v := ?_) (a' := ?_) #[true, true, true, false, false, false, false, false, false, false, false, false, false, false, false, false, false, false, false, false, false, false, false, false, false, false, false] rfl rfl (q0b HT_.out (by kernel_rfl)) (fun _ _ _ h => h) (Or.inl ⟨by rfl, ?_⟩) ?_ ?_
   rotate_left
   ·intro w'
    go_simp
    with_reducible rfl
   rotate_left
   ·simp only [Act.put, s1, s2, s3, q09, q0a]
    rfl
   refine q0e (i := 3) (N := some 9) (v := ?_) (a' := ?_) #[true, true, true, true, false, false, false, false, false, false, false, false, false, false, false, false, false, false, false, false, false, false, false, false, false, false, false] rfl rfl (q0b HT_.out (by kernel_rfl)) (fun _ _ _ h => h) (Or.inl ⟨by rfl, ?_⟩) ?_ ?_
   rotate_left
   ·intro w'
    go_simp
    with_reducible rfl
   rotate_left
   ·simp only [Act.put, s1, s2, s3, q09, q0a]
    rfl
   refine q0e (i := 4) (N := some 10) (v := undef) (a' := ?_) #[true, true, true, true, true, false, false, false, false, false, false, false, false, false, false, false, false, false, false, false, false, false, false, false, false, false, false] rfl rfl (q0b HT_.out (by kernel_rfl)) (fun _ _ _ h => h) (Or.inr ⟨by rfl, rfl⟩) ?_ ?_
   rotate_left
   ·simp only [Act.put, s1, s2, s3, q09, q0a]
    rfl
   refine q0e (i := 5) (N := some 11) (v := undef) (a' := ?_) #[true, true, true, true, true, true, false, false, false, false, false, false, false, false, false, false, false, false, false, false, false, false, false, false, false, false, false] rfl rfl (q0b HT_.out (by kernel_rfl)) (fun _ _ _ h => h) (Or.inr ⟨by rfl, rfl⟩) ?_ ?_
   rotate_left
   ·simp only [Act.put, s1, s2, s3, q09, q0a]
    rfl
   refine q0e (i := 6) (N := some 12) (v := undef) (a' := ?_) #[true, true, true, true, true, true, true, false, false, false, false, false, false, false, false, false, false, false, false, false, false, false, false, false, false, false, false] rfl rfl (q0b HT_.out (by kernel_rfl)) (fun _ _ _ h => h) (Or.inr ⟨by rfl, rfl⟩) ?_ ?_
   rotate_left
   ·simp only [Act.put, s1, s2, s3, q09, q0a]
    rfl
   refine q0e (i := 7) (N := some 13) (v := undef) (a' := ?_) #[true, true, true, true, true, true, true, true, false, false, false, false, false, false, false, false, false, false, false, false, false, false, false, false, false, false, false] rfl rfl (q0b HT_.out (by kernel_rfl)) (fun _ _ _ h => h) (Or.inr ⟨by rfl, rfl⟩) ?_ ?_
   rotate_left
   ·simp only [Act.put, s1, s2, s3, q09, q0a]
    rfl
   refine q0e (i := 8) (N := some 14) (v := undef) (a' := ?_) #[true, true, true, true, true, true, true, true, true, false, false, false, false, false, false, false, false, false, false, false, false, false, false, false, false, false, false] rfl rfl (q0b HT_.out (by kernel_rfl)) (fun _ _ _ h => h) (Or.inr ⟨by rfl, rfl⟩) ?_ ?_
   rotate_left
   ·simp only [Act.put, s1, s2, s3, q09, q0a]
    rfl
   refine q0e (i := 9) (N := some 15) (v := undef) (a' := ?_) #[true, true, true, true, true, true, true, true, true, true, false, false, false, false, false, false, false, false, false, false, false, false, false, false, false, false, false] rfl rfl (q0b HT_.out (by kernel_rfl)) (fun _ _ _ h => h) (Or.inr ⟨by rfl, rfl⟩) ?_ ?_
   rotate_left
   ·simp only [Act.put, s1, s2, s3, q09, q0a]
    rfl
   refine q0e (i := 10) (N := some 16) (v := undef) (a' := ?_) #[true, true, true, true, true, true, true, true, true, true, true, false, false, false, false, false, false, false, false, false, false, false, false, false, false, false, false] rfl rfl (q0b HT_.out (by kernel_rfl)) (fun _ _ _ h => h) (Or.inr ⟨by rfl, rfl⟩) ?_ ?_
   rotate_left
   ·simp only [Act.put, s1, s2, s3, q09, q0a]
    rfl
   refine q0e (i := 11) (N := some 17) (v := ?_) (a' := ?_) #[true, true, true, true, true, true, true, true, true, true, true, true, false, false, false, false, false, false, false, false, false, false, false, false, false, false, false] rfl rfl (q0b HT_.out (by kernel_rfl)) (fun _ _ _ h => h) (Or.inl ⟨by rfl, ?_⟩) ?_ ?_
   rotate_left
   ·intro w'
    go_simp
    with_reducible rfl
   rotate_left
   ·simp only [Act.put, s1, s2, s3, q09, q0a]
    rfl
   refine q0e (i := 12) (N := some 18) (v := ?_) (a' := ?_) #[true, true, true, true, true, true, true, true, true, true, true, true, true, false, false, false, false, false, false, false, false, false, false, false, false, false, false] rfl rfl (q0b HT_.out (by kernel_rfl)) (fun _ _ _ h => h) (Or.inl ⟨by rfl, ?_⟩) ?_ ?_
   rotate_left
   ·intro w'
    go_simp
    with_reducible rfl
   rotate_left
   ·simp only [Act.put, s1, s2, s3, q09, q0a]
    rfl
   refine q0e (i := 13) (N := some 19) (v := undef) (a' := ?_) #[true, true, true, true, true, true, true, true, true, true, true, true, true, true, false, false, false, false, false, false, false, false, false, false, false, false, false] rfl rfl (q0b HT_.out (by kernel_rfl)) (fun _ _ _ h => h) (Or.inr ⟨by rfl, rfl⟩) ?_ ?_
   rotate_left
   ·simp only [Act.put, s1, s2, s3, q09, q0a]
    rfl
   refine q0e (i := 14) (N := some 20) (v := undef) (a' := ?_) #[true, true, true, true, true, true, true, true, true, true, true, true, true, true, true, false, false, false, false, false, false, false, false, false, false, false, false] rfl rfl (q0b HT_.out (by kernel_rfl)) (fun _ _ _ h => h) (Or.inr ⟨by rfl, rfl⟩) ?_ ?_
   rotate_left
   ·simp only [Act.put, s1, s2, s3, q09, q0a]
    rfl
   refine q0e (i := 15) (N := some 21) (v := undef) (a' := ?_) #[true, true, true, true, true, true, true, true, true, true, true, true, true, true, true, true, false, false, false, false, false, false, false, false, false, false, false] rfl rfl (q0b HT_.out (by kernel_rfl)) (fun _ _ _ h => h) (Or.inr ⟨by rfl, rfl⟩) ?_ ?_
   rotate_left
   ·simp only [Act.put, s1, s2, s3, q09, q0a]
    rfl
   refine q0e (i := 16) (N := some 22) (v := ?_) (a' := ?_) #[true, true, true, true, true, true, true, true, true, true, true, true, true, true, true, true, true, false, false, false, false, false, false, false, false, false, false] rfl rfl (q0b HT_.out (by kernel_rfl)) (fun _ _ _ h => h) (Or.inl ⟨by rfl, ?_⟩) ?_ ?_
   rotate_left
   ·intro w'
    go_simp
    with_reducible rfl
   rotate_left
   ·simp only [Act.put, s1, s2, s3, q09, q0a]
    rfl
   refine q0e (i := 17) (N := some 23) (v := ?_) (a' := ?_) #[true, true, true, true, true, true, true, true, true, true, true, true, true, true, true, true, true, true, false, false, false, false, false, false, false, false, false] rfl rfl (q0b HT_.out (by kernel_rfl)) (fun _ _ _ h => h) (Or.inl ⟨by rfl, ?_⟩) ?_ ?_
   rotate_left
   ·intro w'
    go_simp
    with_reducible rfl
   rotate_left
   ·simp only [Act.put, s1, s2, s3, q09, q0a]
    rfl
   refine q0e (i := 18) (N := some 24) (v := undef) (a' := ?_) #[true, true, true, true, true, true, true, true, true, true, true, true, true, true, true, true, true, true, true, false, false, false, false, false, false, false, false] rfl rfl (q0b HT_.out (by kernel_rfl)) (fun _ _ _ h => h) (Or.inr ⟨by rfl, rfl⟩) ?_ ?_
   rotate_left
   ·simp only [Act.put, s1, s2, s3, q09, q0a]
    rfl
   refine q0e (i := 19) (N := some 25) (v := undef) (a' := ?_) #[true, true, true, true, true, true, true, true, true, true, true, true, true, true, true, true, true, true, true, true, false, false, false, false, false, false, false] rfl rfl (q0b HT_.out (by kernel_rfl)) (fun _ _ _ h => h) (Or.inr ⟨by rfl, rfl⟩) ?_ ?_
   rotate_left
   ·simp only [Act.put, s1, s2, s3, q09, q0a]
    rfl
   refine q0e (i := 20) (N := some 26) (v := undef) (a' := ?_) #[true, true, true, true, true, true, true, true, true, true, true, true, true, true, true, true, true, true, true, true, true, false, false, false, false, false, false] rfl rfl (q0b HT_.out (by kernel_rfl)) (fun _ _ _ h => h) (Or.inr ⟨by rfl, rfl⟩) ?_ ?_
   rotate_left
   ·simp only [Act.put, s1, s2, s3, q09, q0a]
    rfl
   refine q0e (i := 21) (N := some 27) (v := undef) (a' := ?_) #[true, true, true, true, true, true, true, true, true, true, true, true, true, true, true, true, true, true, true, true, true, true, false, false, false, false, false] rfl rfl (q0b HT_.out (by kernel_rfl)) (fun _ _ _ h => h) (Or.inr ⟨by rfl, rfl⟩) ?_ ?_
   rotate_left
   ·simp only [Act.put, s1, s2, s3, q09, q0a]
    rfl
   refine q0e (i := 22) (N := some 28) (v := undef) (a' := ?_) #[true, true, true, true, true, true, true, true, true, true, true, true, true, true, true, true, true, true, true, true, true, true, true, false, false, false, false] rfl rfl (q0b HT_.out (by kernel_rfl)) (fun _ _ _ h => h) (Or.inr ⟨by rfl, rfl⟩) ?_ ?_
   rotate_left
   ·simp only [Act.put, s1, s2, s3, q09, q0a]
    rfl
   refine q0e (i := 23) (N := some 29) (v := undef) (a' := ?_) #[true, true, true, true, true, true, true, true, true, true, true, true, true, true, true, true, true, true, true, true, true, true, true, true, false, false, false] rfl rfl (q0b HT_.out (by kernel_rfl)) (fun _ _ _ h => h) (Or.inr ⟨by rfl, rfl⟩) ?_ ?_
   rotate_left
   ·simp only [Act.put, s1, s2, s3, q09, q0a]
    rfl
   refine q0e (i := 24) (N := some 30) (v := undef) (a' := ?_) #[true, true, true, true, true, true, true, true, true, true, true, true, true, true, true, true, true, true, true, true, true, true, true, true, true, false, false] rfl rfl (q0b HT_.out (by kernel_rfl)) (fun _ _ _ h => h) (Or.inr ⟨by rfl, rfl⟩) ?_ ?_
   rotate_left
   ·simp only [Act.put, s1, s2, s3, q09, q0a]
    rfl
   refine q0e (i := 25) (N := some 31) (v := ?_) (a' := ?_) #[true, true, true, true, true, true, true, true, true, true, true, true, true, true, true, true, true, true, true, true, true, true, true, true, true, true, false] rfl rfl (q0b HT_.out (by kernel_rfl)) (fun _ _ _ h => h) (Or.inl ⟨by rfl, ?_⟩) ?_ ?_
   rotate_left
   ·intro w'
    go_simp
    with_reducible rfl
   rotate_left
   ·simp only [Act.put, s1, s2, s3, q09, q0a]
    rfl
   refine q0e (i := 26) (N := some 5) (v := ?_) (a' := ?_) #[true, true, true, true, true, true, true, true, true, true, true, true, true, true, true, true, true, true, true, true, true, true, true, true, true, true, true] rfl rfl (q0b HT_.out (by kernel_rfl)) (fun _ _ _ h => h) (Or.inl ⟨by rfl, ?_⟩) ?_ ?_
   rotate_left
   ·intro w'
    go_simp
    with_reducible rfl
   rotate_left
   ·simp only [Act.put, s1, s2, s3, q09, q0a]
    rfl
   refine done_ (q1l HT_.out (by kernel_rfl)) ?_
   try go_wp2
   go_meet
   case rel => exact ⟨_, _, zi, H', ⟨by first | omega | exact Nat.le_refl _⟩, ⟨by (with_reducible repeat (first | refine kN ?_ _ | refine kD ?_ | refine kA ?_ _)); exact BK266.out⟩, ⟨by (with_reducible repeat (first | refine kN ?_ _ | refine kD ?_ | refine kA ?_ _)); exact BK267.out⟩, ⟨by repeat (first | (with_reducible first | exact HB.out | apply bA | apply bN | apply bD | refine bS ?_ GE266.out | refine bS ?_ GE267.out) | exact HB.out)⟩⟩
  case p8 =>
   have H' := aS H
   clear H
   try go_wp2
   have n0_ := aS (q0v BK266.out)
   have n1_ := aS (q0v BK267.out)
   have n2_ := aS (q0t HB.out)
   clear BK266
   clear BK267
   clear HB
   have BK266 := n0_
   have BK267 := n1_
   have HB := n2_
   clear n0_ n1_ n2_
   refine start_ (n := 27) (S := fun w' => w'.cell? ⟨gb267, 0, none⟩ = some (.int .i64 a1_0) ∧ w'.cell? ⟨gb267, 1, none⟩ = some (.int .i64 a1_1) ∧ w'.cell? ⟨gb266, 0, none⟩ = some (.slice A0_0 l0_0.length c0_0) ∧ w'.cell? ⟨gb266, 1, none⟩ = some (.bool a0_1)) (ds := []) #[false, false, false, false, false, false, false, false, false, false, false, false, false, false, false, false, false, false, false, false, false, false, false, false, false, false, false] (by kernel_rfl) rfl rfl ⟨(q03 BK267.out 0).trans rfl, (q03 BK267.out 1).trans rfl, (q03 BK266.out 0).trans rfl, (q03 BK266.out 1).trans rfl⟩ (fun hHeld => ?_); refine q14 span_ranger_point.tab1 span_ranger_point.bits1 (fun HT_ HW_ => ?_)
   generalize w5.drew = w9 at BK266 BK267 HB hHeld ⊢
   refine q0e (i := 0) (N := some 6) (v := ?_) (a' := ?_) #[true, false, false, false, false, false, false, false, false, false, false, false, false, false, false, false, false, false, false, false, false, false, false, false, false, false, false] rfl rfl (q0b HT_.out (by kernel_rfl)) (fun _ _ _ h => h) (Or.inl ⟨by rfl, ?_⟩) ?_ ?_
   rotate_left
   ·intro w'
    go_simp
    with_reducible rfl
   rotate_left
   ·simp only [Act.put, s1, s2, s3, q09, q0a]
    rfl
   refine take_ (i := 1) (N := some 7) (v := ?_) (a' := ?_) #[true, true, false, false, false, false, false, false, false, false, false, false, false, false, false, false, false, false, false, false, false, false, false, false, false, false, false] rfl rfl (q0m HT_.out HW_.out (by kernel_rfl)) (fun _ _ _ h => h) (Or.inl ⟨by rfl, ?_⟩) hHeld ?_ ?_
   rotate_left
   ·rintro w' ⟨s0, s1, s2, s3⟩
    go_simp
    with_reducible rfl
   rotate_left
   ·simp only [Act.put, s1, s2, s3, q09, q0a]
    rfl
   refine q0e (i := 2) (N := some 8) (v := ?_) (a' := ?_) #[true, true, true, false, false, false, false, false, false, false, false, false, false, false, false, false, false, false, false, false, false, false, false, false, false, false, false] rfl rfl (q0b HT_.out (by kernel_rfl)) (fun _ _ _ h => h) (Or.inl ⟨by rfl, ?_⟩) ?_ ?_
   rotate_left
   ·intro w'
    go_simp
    with_reducible rfl
   rotate_left
   ·simp only [Act.put, s1, s2, s3, q09, q0a]
    rfl
   refine q0e (i := 3) (N := some 9) (v := ?_) (a' := ?_) #[true, true, true, true, false, false, false, false, false, false, false, false, false, false, false, false, false, false, false, false, false, false, false, false, false, false, false] rfl rfl (q0b HT_.out (by kernel_rfl)) (fun _ _ _ h => h) (Or.inl ⟨by rfl, ?_⟩) ?_ ?_
   rotate_left
   ·intro w'
    go_simp
    with_reducible rfl
   rotate_left
   ·simp only [Act.put, s1, s2, s3, q09, q0a]
    rfl
   refine q0e (i := 4) (N := some 10) (v := ?_) (a' := ?_) #[true, true, true, true, true, false, false, false, false, false, false, false, false, false, false, false, false, false, false, false, false, false, false, false, false, false, false] rfl rfl (q0b HT_.out (by kernel_rfl)) (fun _ _ _ h => h) (Or.inl ⟨by rfl, ?_⟩) ?_ ?_
   rotate_left
   ·intro w'
    go_simp
    with_reducible rfl
   rotate_left
   ·simp only [Act.put, s1, s2, s3, q09, q0a]
    rfl
   refine q0e (i := 6) (N := some 12) (v := ?_) (a' := ?_) #[true, true, true, true, true, false, true, false, false, false, false, false, false, false, false, false, false, false, false, false, false, false, false, false, false, false, false] rfl rfl (q0b HT_.out (by kernel_rfl)) (fun _ _ _ h => h) (Or.inl ⟨by rfl, ?_⟩) ?_ ?_
   rotate_left
   ·intro w'
    go_simp
    with_reducible rfl
   rotate_left
   ·simp only [Act.put, s1, s2, s3, q09, q0a]
    rfl
   refine q0e (i := 7) (N := some 13) (v := ?_) (a' := ?_) #[true, true, true, true, true, false, true, true, false, false, false, false, false, false, false, false, false, false, false, false, false, false, false, false, false, false, false] rfl rfl (q0b HT_.out (by kernel_rfl)) (fun _ _ _ h => h) (Or.inl ⟨by rfl, ?_⟩) ?_ ?_
   rotate_left
   ·intro w'
    go_simp
    with_reducible rfl
   rotate_left
   ·simp only [Act.put, s1, s2, s3, q09, q0a]
    rfl
   refine take_ (i := 5) (N := some 11) (v := ?_) (a' := ?_) #[true, true, true, true, true, true, true, true, false, false, false, false, false, false, false, false, false, false, false, false, false, false, false, false, false, false, false] rfl rfl (q0m HT_.out HW_.out (by kernel_rfl)) (fun _ _ _ h => h) (Or.inl ⟨by rfl, ?_⟩) hHeld ?_ ?_
   rotate_left
   ·rintro w' ⟨s0, s1, s2, s3⟩
    go_simp
    with_reducible rfl
   rotate_left
   ·simp only [Act.put, s1, s2, s3, q09, q0a]
    rfl
   refine take_ (i := 8) (N := some 14) (v := ?_) (a' := ?_) #[true, true, true, true, true, true, true, true, true, false, false, false, false, false, false, false, false, false, false, false, false, false, false, false, false, false, false] rfl rfl (q0m HT_.out HW_.out (by kernel_rfl)) (fun _ _ _ h => h) (Or.inl ⟨by rfl, ?_⟩) hHeld ?_ ?_
   rotate_left
   ·rintro w' ⟨s0, s1, s2, s3⟩
    go_simp
    with_reducible rfl
   rotate_left
   ·simp only [Act.put, s1, s2, s3, q09, q0a]
    rfl
   refine q0e (i := 9) (N := some 15) (v := ?_) (a' := ?_) #[true, true, true, true, true, true, true, true, true, true, false, false, false, false, false, false, false, false, false, false, false, false, false, false, false, false, false] rfl rfl (q0b HT_.out (by kernel_rfl)) (fun _ _ _ h => h) (Or.inl ⟨by rfl, ?_⟩) ?_ ?_
   rotate_left
   ·intro w'
    go_simp
    with_reducible rfl
   rotate_left
   ·simp only [Act.put, s1, s2, s3, q09, q0a]
    rfl
   refine q0e (i := 10) (N := some 16) (v := ?_) (a' := ?_) #[true, true, true, true, true, true, true, true, true, true, true, false, false, false, false, false, false, false, false, false, false, false, false, false, false, false, false] rfl rfl (q0b HT_.out (by kernel_rfl)) (fun _ _ _ h => h) (Or.inl ⟨by rfl, ?_⟩) ?_ ?_
   rotate_left
   ·intro w'
    go_simp
    with_reducible rfl
   rotate_left
   ·simp only [Act.put, s1, s2, s3, q09, q0a]
    rfl
   refine q0e (i := 11) (N := some 17) (v := ?_) (a' := ?_) #[true, true, true, true, true, true, true, true, true, true, true, true, false, false, false, false, false, false, false, false, false, false, false, false, false, false, false] rfl rfl (q0b HT_.out (by kernel_rfl)) (fun _ _ _ h => h) (Or.inl ⟨by rfl, ?_⟩) ?_ ?_
   rotate_left
   ·intro w'
    go_simp
    with_reducible rfl
   rotate_left
   ·simp only [Act.put, s1, s2, s3, q09, q0a]
    rfl
   refine q0e (i := 12) (N := some 18) (v := ?_) (a' := ?_) #[true, true, true, true, true, true, true, true, true, true, true, true, true, false, false, false, false, false, false, false, false, false, false, false, false, false, false] rfl rfl (q0b HT_.out (by kernel_rfl)) (fun _ _ _ h => h) (Or.inl ⟨by rfl, ?_⟩) ?_ ?_
   rotate_left
   ·intro w'
    go_simp
    with_reducible rfl
   rotate_left
   ·simp only [Act.put, s1, s2, s3, q09, q0a]
    rfl
   refine q0e (i := 13) (N := some 19) (v := undef) (a' := ?_) #[true, true, true, true, true, true, true, true, true, true, true, true, true, true, false, false, false, false, false, false, false, false, false, false, false, false, false] rfl rfl (q0b HT_.out (by kernel_rfl)) (fun _ _ _ h => h) (Or.inr ⟨by rfl, rfl⟩) ?_ ?_
   rotate_left
   ·simp only [Act.put, s1, s2, s3, q09, q0a]
    rfl
   refine q0e (i := 14) (N := some 20) (v := undef) (a' := ?_) #[true, true, true, true, true, true, true, true, true, true, true, true, true, true, true, false, false, false, false, false, false, false, false, false, false, false, false] rfl rfl (q0b HT_.out (by kernel_rfl)) (fun _ _ _ h => h) (Or.inr ⟨by rfl, rfl⟩) ?_ ?_
   rotate_left
   ·simp only [Act.put, s1, s2, s3, q09, q0a]
    rfl
   refine q0e (i := 15) (N := some 21) (v := undef) (a' := ?_) #[true, true, true, true, true, true, true, true, true, true, true, true, true, true, true, true, false, false, false, false, false, false, false, false, false, false, false] rfl rfl (q0b HT_.out (by kernel_rfl)) (fun _ _ _ h => h) (Or.inr ⟨by rfl, rfl⟩) ?_ ?_
   rotate_left
   ·simp only [Act.put, s1, s2, s3, q09, q0a]
    rfl
   refine q0e (i := 16) (N := some 22) (v := ?_) (a' := ?_) #[true, true, true, true, true, true, true, true, true, true, true, true, true, true, true, true, true, false, false, false, false, false, false, false, false, false, false] rfl rfl (q0b HT_.out (by kernel_rfl)) (fun _ _ _ h => h) (Or.inl ⟨by rfl, ?_⟩) ?_ ?_
   rotate_left
   ·intro w'
    go_simp
    with_reducible rfl
   rotate_left
   ·simp only [Act.put, s1, s2, s3, q09, q0a]
    rfl
   refine q0e (i := 17) (N := some 23) (v := ?_) (a' := ?_) #[true, true, true, true, true, true, true, true, true, true, true, true, true, true, true, true, true, true, false, false, false, false, false, false, false, false, false] rfl rfl (q0b HT_.out (by kernel_rfl)) (fun _ _ _ h => h) (Or.inl ⟨by rfl, ?_⟩) ?_ ?_
   rotate_left
   ·intro w'
    go_simp
    with_reducible rfl
   rotate_left
   ·simp only [Act.put, s1, s2, s3, q09, q0a]
    rfl
   refine q0e (i := 18) (N := some 24) (v := undef) (a' := ?_) #[true, true, true, true, true, true, true, true, true, true, true, true, true, true, true, true, true, true, true, false, false, false, false, false, false, false, false] rfl rfl (q0b HT_.out (by kernel_rfl)) (fun _ _ _ h => h) (Or.inr ⟨by rfl, rfl⟩) ?_ ?_
   rotate_left
   ·simp only [Act.put, s1, s2, s3, q09, q0a]
    rfl
   refine q0e (i := 19) (N := some 25) (v := undef) (a' := ?_) #[true, true, true, true, true, true, true, true, true, true, true, true, true, true, true, true, true, true, true, true, false, false, false, false, false, false, false] rfl rfl (q0b HT_.out (by kernel_rfl)) (fun _ _ _ h => h) (Or.inr ⟨by rfl, rfl⟩) ?_ ?_
   rotate_left
   ·simp only [Act.put, s1, s2, s3, q09, q0a]
    rfl
   refine q0e (i := 20) (N := some 26) (v := undef) (a' := ?_) #[true, true, true, true, true, true, true, true, true, true, true, true, true, true, true, true, true, true, true, true, true, false, false, false, false, false, false] rfl rfl (q0b HT_.out (by kernel_rfl)) (fun _ _ _ h => h) (Or.inr ⟨by rfl, rfl⟩) ?_ ?_
   rotate_left
   ·simp only [Act.put, s1, s2, s3, q09, q0a]
    rfl
   refine q0e (i := 21) (N := some 27) (v := undef) (a' := ?_) #[true, true, true, true, true, true, true, true, true, true, true, true, true, true, true, true, true, true, true, true, true, true, false, false, false, false, false] rfl rfl (q0b HT_.out (by kernel_rfl)) (fun _ _ _ h => h) (Or.inr ⟨by rfl, rfl⟩) ?_ ?_
   rotate_left
   ·simp only [Act.put, s1, s2, s3, q09, q0a]
    rfl
   refine q0e (i := 22) (N := some 28) (v := undef) (a' := ?_) #[true, true, true, true, true, true, true, true, true, true, true, true, true, true, true, true, true, true, true, true, true, true, true, false, false, false, false] rfl rfl (q0b HT_.out (by kernel_rfl)) (fun _ _ _ h => h) (Or.inr ⟨by rfl, rfl⟩) ?_ ?_
   rotate_left
   ·simp only [Act.put, s1, s2, s3, q09, q0a]
    rfl
   refine q0e (i := 23) (N := some 29) (v := undef) (a' := ?_) #[true, true, true, true, true, true, true, true, true, true, true, true, true, true, true, true, true, true, true, true, true, true, true, true, false, false, false] rfl rfl (q0b HT_.out (by kernel_rfl)) (fun _ _ _ h => h) (Or.inr ⟨by rfl, rfl⟩) ?_ ?_
   rotate_left
   ·simp only [Act.put, s1, s2, s3, q09, q0a]
    rfl
   refine q0e (i := 24) (N := some 30) (v := undef) (a' := ?_) #[true, true, true, true, true, true, true, true, true, true, true, true, true, true, true, true, true, true, true, true, true, true, true, true, true, false, false] rfl rfl (q0b HT_.out (by kernel_rfl)) (fun _ _ _ h => h) (Or.inr ⟨by rfl, rfl⟩) ?_ ?_
   rotate_left
   ·simp only [Act.put, s1, s2, s3, q09, q0a]
    rfl
   refine q0e (i := 25) (N := some 31) (v := ?_) (a' := ?_) #[true, true, true, true, true, true, true, true, true, true, true, true, true, true, true, true, true, true, true, true, true, true, true, true, true, true, false] rfl rfl (q0b HT_.out (by kernel_rfl)) (fun _ _ _ h => h) (Or.inl ⟨by rfl, ?_⟩) ?_ ?_
   rotate_left
   ·intro w'
    go_simp
    with_reducible rfl
   rotate_left
   ·simp only [Act.put, s1, s2, s3, q09, q0a]
    rfl
   refine q0e (i := 26) (N := some 5) (v := ?_) (a' := ?_) #[true, true, true, true, true, true, true, true, true, true, true, true, true, true, true, true, true, true, true, true, true, true, true, true, true, true, true] rfl rfl (q0b HT_.out (by kernel_rfl)) (fun _ _ _ h => h) (Or.inl ⟨by rfl, ?_⟩) ?_ ?_
   rotate_left
   ·intro w'
    go_simp
    with_reducible rfl
   rotate_left
   ·simp only [Act.put, s1, s2, s3, q09, q0a]
    rfl
   refine done_ (q1l HT_.out (by kernel_rfl)) ?_
   try go_wp2
   go_meet
   case rel => exact ⟨_, _, zi, H', ⟨by first | omega | exact Nat.le_refl _⟩, ⟨by (with_reducible repeat (first | refine kN ?_ _ | refine kD ?_ | refine kA ?_ _)); exact BK266.out⟩, ⟨by (with_reducible repeat (first | refine kN ?_ _ | refine kD ?_ | refine kA ?_ _)); exact BK267.out⟩, ⟨by repeat (first | (with_reducible first | exact HB.out | apply bA | apply bN | apply bD | refine bS ?_ GE266.out | refine bS ?_ GE267.out) | exact HB.out)⟩⟩
  case p10 =>
   have H' := aS H
   clear H
   try go_wp2
   have n0_ := aS (q0v BK266.out)
   have n1_ := aS (q0v BK267.out)
   have n2_ := aS (q0t HB.out)
   clear BK266
   clear BK267
   clear HB
   have BK266 := n0_
   have BK267 := n1_
   have HB := n2_
   clear n0_ n1_ n2_
   refine start_ (n := 27) (S := fun w' => w'.cell? ⟨gb267, 0, none⟩ = some (.int .i64 a1_0) ∧ w'.cell? ⟨gb267, 1, none⟩ = some (.int .i64 a1_1) ∧ w'.cell? ⟨gb266, 0, none⟩ = some (.slice A0_0 l0_0.length c0_0) ∧ w'.cell? ⟨gb266, 1, none⟩ = some (.bool a0_1)) (ds := []) #[false, false, false, false, false, false, false, false, false, false, false, false, false, false, false, false, false, false, false, false, false, false, false, false, false, false, false] (by kernel_rfl) rfl rfl ⟨(q03 BK267.out 0).trans rfl, (q03 BK267.out 1).trans rfl, (q03 BK266.out 0).trans rfl, (q03 BK266.out 1).trans rfl⟩ (fun hHeld => ?_); refine q14 span_ranger_point.tab1 span_ranger_point.bits1 (fun HT_ HW_ => ?_)
   generalize w5.drew = w11 at BK266 BK267 HB hHeld ⊢
   refine q0e (i := 0) (N := some 6) (v := ?_) (a' := ?_) #[true, false, false, false, false, false, false, false, false, false, false, false, false, false, false, false, false, false, false, false, false, false, false, false, false, false, false] rfl rfl (q0b HT_.out (by kernel_rfl)) (fun _ _ _ h => h) (Or.inl ⟨by rfl, ?_⟩) ?_ ?_
   rotate_left
   ·intro w'
    go_simp
    with_reducible rfl
   rotate_left
   ·simp only [Act.put, s1, s2, s3, q09, q0a]
    rfl
   refine take_ (i := 1) (N := some 7) (v := ?_) (a' := ?_) #[true, true, false, false, false, false, false, false, false, false, false, false, false, false, false, false, false, false, false, false, false, false, false, false, false, false, false] rfl rfl (q0m HT_.out HW_.out (by kernel_rfl)) (fun _ _ _ h => h) (Or.inl ⟨by rfl, ?_⟩) hHeld ?_ ?_
   rotate_left
   ·rintro w' ⟨s0, s1, s2, s3⟩
    go_simp
    with_reducible rfl
   rotate_left
   ·simp only [Act.put, s1, s2, s3, q09, q0a]
    rfl
   refine q0e (i := 2) (N := some 8) (v := ?_) (a' := ?_) #[true, true, true, false, false, false, false, false, false, false, false, false, false, false, false, false, false, false, false, false, false, false, false, false, false, false, false] rfl rfl (q0b HT_.out (by kernel_rfl)) (fun _ _ _ h => h) (Or.inl ⟨by rfl, ?_⟩) ?_ ?_
   rotate_left
   ·intro w'
    go_simp
    with_reducible rfl
   rotate_left
   ·simp only [Act.put, s1, s2, s3, q09, q0a]
    rfl
   refine q0e (i := 3) (N := some 9) (v := ?_) (a' := ?_) #[true, true, true, true, false, false, false, false, false, false, false, false, false, false, false, false, false, false, false, false, false, false, false, false, false, false, false] rfl rfl (q0b HT_.out (by kernel_rfl)) (fun _ _ _ h => h) (Or.inl ⟨by rfl, ?_⟩) ?_ ?_
   rotate_left
   ·intro w'
    go_simp
    with_reducible rfl
   rotate_left
   ·simp only [Act.put, s1, s2, s3, q09, q0a]
    rfl
   refine q0e (i := 4) (N := some 10) (v := ?_) (a' := ?_) #[true, true, true, true, true, false, false, false, false, false, false, false, false, false, false, false, false, false, false, false, false, false, false, false, false, false, false] rfl rfl (q0b HT_.out (by kernel_rfl)) (fun _ _ _ h => h) (Or.inl ⟨by rfl, ?_⟩) ?_ ?_
   rotate_left
   ·intro w'
    go_simp
    with_reducible rfl
   rotate_left
   ·simp only [Act.put, s1, s2, s3, q09, q0a]
    rfl
   refine q0e (i := 6) (N := some 12) (v := ?_) (a' := ?_) #[true, true, true, true, true, false, true, false, false, false, false, false, false, false, false, false, false, false, false, false, false, false, false, false, false, false, false] rfl rfl (q0b HT_.out (by kernel_rfl)) (fun _ _ _ h => h) (Or.inl ⟨by rfl, ?_⟩) ?_ ?_
   rotate_left
   ·intro w'
    go_simp
    with_reducible rfl
   rotate_left
   ·simp only [Act.put, s1, s2, s3, q09, q0a]
    rfl
   refine q0e (i := 7) (N := some 13) (v := ?_) (a' := ?_) #[true, true, true, true, true, false, true, true, false, false, false, false, false, false, false, false, false, false, false, false, false, false, false, false, false, false, false] rfl rfl (q0b HT_.out (by kernel_rfl)) (fun _ _ _ h => h) (Or.inl ⟨by rfl, ?_⟩) ?_ ?_
   rotate_left
   ·intro w'
    go_simp
    with_reducible rfl
   rotate_left
   ·simp only [Act.put, s1, s2, s3, q09, q0a]
    rfl
   refine take_ (i := 5) (N := some 11) (v := ?_) (a' := ?_) #[true, true, true, true, true, true, true, true, false, false, false, false, false, false, false, false, false, false, false, false, false, false, false, false, false, false, false] rfl rfl (q0m HT_.out HW_.out (by kernel_rfl)) (fun _ _ _ h => h) (Or.inl ⟨by rfl, ?_⟩) hHeld ?_ ?_
   rotate_left
   ·rintro w' ⟨s0, s1, s2, s3⟩
    go_simp
    with_reducible rfl
   rotate_left
   ·simp only [Act.put, s1, s2, s3, q09, q0a]
    rfl
   refine take_ (i := 8) (N := some 14) (v := ?_) (a' := ?_) #[true, true, true, true, true, true, true, true, true, false, false, false, false, false, false, false, false, false, false, false, false, false, false, false, false, false, false] rfl rfl (q0m HT_.out HW_.out (by kernel_rfl)) (fun _ _ _ h => h) (Or.inl ⟨by rfl, ?_⟩) hHeld ?_ ?_
   rotate_left
   ·rintro w' ⟨s0, s1, s2, s3⟩
    go_simp
    with_reducible rfl
   rotate_left
   ·simp only [Act.put, s1, s2, s3, q09, q0a]
    rfl
   refine q0e (i := 9) (N := some 15) (v := ?_) (a' := ?_) #[true, true, true, true, true, true, true, true, true, true, false, false, false, false, false, false, false, false, false, false, false, false, false, false, false, false, false] rfl rfl (q0b HT_.out (by kernel_rfl)) (fun _ _ _ h => h) (Or.inl ⟨by rfl, ?_⟩) ?_ ?_
   rotate_left
   ·intro w'
    go_simp
    with_reducible rfl
   rotate_left
   ·simp only [Act.put, s1, s2, s3, q09, q0a]
    rfl
   refine q0e (i := 10) (N := some 16) (v := ?_) (a' := ?_) #[true, true, true, true, true, true, true, true, true, true, true, false, false, false, false, false, false, false, false, false, false, false, false, false, false, false, false] rfl rfl (q0b HT_.out (by kernel_rfl)) (fun _ _ _ h => h) (Or.inl ⟨by rfl, ?_⟩) ?_ ?_
   rotate_left
   ·intro w'
    go_simp
    with_reducible rfl
   rotate_left
   ·simp only [Act.put, s1, s2, s3, q09, q0a]
    rfl
   refine q0e (i := 11) (N := some 17) (v := ?_) (a' := ?_) #[true, true, true, true, true, true, true, true, true, true, true, true, false, false, false, false, false, false, false, false, false, false, false, false, false, false, false] rfl rfl (q0b HT_.out (by kernel_rfl)) (fun _ _ _ h => h) (Or.inl ⟨by rfl, ?_⟩) ?_ ?_
   rotate_left
   ·intro w'
    go_simp
    with_reducible rfl
   rotate_left
   ·simp only [Act.put, s1, s2, s3, q09, q0a]
    rfl
   refine q0e (i := 12) (N := some 18) (v := ?_) (a' := ?_) #[true, true, true, true, true, true, true, true, true, true, true, true, true, false, false, false, false, false, false, false, false, false, false, false, false, false, false] rfl rfl (q0b HT_.out (by kernel_rfl)) (fun _ _ _ h => h) (Or.inl ⟨by rfl, ?_⟩) ?_ ?_
   rotate_left
   ·intro w'
    go_simp
    with_reducible rfl
   rotate_left
   ·simp only [Act.put, s1, s2, s3, q09, q0a]
    rfl
   refine q0e (i := 13) (N := some 19) (v := ?_) (a' := ?_) #[true, true, true, true, true, true, true, true, true, true, true, true, true, true, false, false, false, false, false, false, false, false, false, false, false, false, false] rfl rfl (q0b HT_.out (by kernel_rfl)) (fun _ _ _ h => h) (Or.inl ⟨by rfl, ?_⟩) ?_ ?_
   rotate_left
   ·intro w'
    go_simp
    with_reducible rfl
   rotate_left
   ·simp only [Act.put, s1, s2, s3, q09, q0a]
    rfl
   refine take_ (i := 14) (N := some 20) (v := ?_) (a' := ?_) #[true, true, true, true, true, true, true, true, true, true, true, true, true, true, true, false, false, false, false, false, false, false, false, false, false, false, false] rfl rfl (q0m HT_.out HW_.out (by kernel_rfl)) (fun _ _ _ h => h) (Or.inl ⟨by rfl, ?_⟩) hHeld ?_ ?_
   rotate_left
   ·rintro w' ⟨s0, s1, s2, s3⟩
    go_simp
    with_reducible rfl
   rotate_left
   ·simp only [Act.put, s1, s2, s3, q09, q0a]
    rfl
   refine q0e (i := 15) (N := some 21) (v := ?_) (a' := ?_) #[true, true, true, true, true, true, true, true, true, true, true, true, true, true, true, true, false, false, false, false, false, false, false, false, false, false, false] rfl rfl (q0b HT_.out (by kernel_rfl)) (fun _ _ _ h => h) (Or.inl ⟨by rfl, ?_⟩) ?_ ?_
   rotate_left
   ·intro w'
    go_simp
    with_reducible rfl
   rotate_left
   ·simp only [Act.put, s1, s2, s3, q09, q0a]
    rfl
   refine q0e (i := 16) (N := some 22) (v := ?_) (a' := ?_) #[true, true, true, true, true, true, true, true, true, true, true, true, true, true, true, true, true, false, false, false, false, false, false, false, false, false, false] rfl rfl (q0b HT_.out (by kernel_rfl)) (fun _ _ _ h => h) (Or.inl ⟨by rfl, ?_⟩) ?_ ?_
   rotate_left
   ·intro w'
    go_simp
    with_reducible rfl
   rotate_left
   ·simp only [Act.put, s1, s2, s3, q09, q0a]
    rfl
   refine q0e (i := 17) (N := some 23) (v := ?_) (a' := ?_) #[true, true, true, true, true, true, true, true, true, true, true, true, true, true, true, true, true, true, false, false, false, false, false, false, false, false, false] rfl rfl (q0b HT_.out (by kernel_rfl)) (fun _ _ _ h => h) (Or.inl ⟨by rfl, ?_⟩) ?_ ?_
   rotate_left
   ·intro w'
    go_simp
    with_reducible rfl
   rotate_left
   ·simp only [Act.put, s1, s2, s3, q09, q0a]
    rfl
   refine q0e (i := 18) (N := some 24) (v := undef) (a' := ?_) #[true, true, true, true, true, true, true, true, true, true, true, true, true, true, true, true, true, true, true, false, false, false, false, false, false, false, false] rfl rfl (q0b HT_.out (by kernel_rfl)) (fun _ _ _ h => h) (Or.inr ⟨by rfl, rfl⟩) ?_ ?_
   rotate_left
   ·simp only [Act.put, s1, s2, s3, q09, q0a]
    rfl
   refine q0e (i := 19) (N := some 25) (v := undef) (a' := ?_) #[true, true, true, true, true, true, true, true, true, true, true, true, true, true, true, true, true, true, true, true, false, false, false, false, false, false, false] rfl rfl (q0b HT_.out (by kernel_rfl)) (fun _ _ _ h => h) (Or.inr ⟨by rfl, rfl⟩) ?_ ?_
   rotate_left
   ·simp only [Act.put, s1, s2, s3, q09, q0a]
    rfl
   refine q0e (i := 20) (N := some 26) (v := undef) (a' := ?_) #[true, true, true, true, true, true, true, true, true, true, true, true, true, true, true, true, true, true, true, true, true, false, false, false, false, false, false] rfl rfl (q0b HT_.out (by kernel_rfl)) (fun _ _ _ h => h) (Or.inr ⟨by rfl, rfl⟩) ?_ ?_
   rotate_left
   ·simp only [Act.put, s1, s2, s3, q09, q0a]
    rfl
   refine q0e (i := 21) (N := some 27) (v := undef) (a' := ?_) #[true, true, true, true, true, true, true, true, true, true, true, true, true, true, true, true, true, true, true, true, true, true, false, false, false, false, false] rfl rfl (q0b HT_.out (by kernel_rfl)) (fun _ _ _ h => h) (Or.inr ⟨by rfl, rfl⟩) ?_ ?_
   rotate_left
   ·simp only [Act.put, s1, s2, s3, q09, q0a]
    rfl
   refine q0e (i := 22) (N := some 28) (v := undef) (a' := ?_) #[true, true, true, true, true, true, true, true, true, true, true, true, true, true, true, true, true, true, true, true, true, true, true, false, false, false, false] rfl rfl (q0b HT_.out (by kernel_rfl)) (fun _ _ _ h => h) (Or.inr ⟨by rfl, rfl⟩) ?_ ?_
   rotate_left
   ·simp only [Act.put, s1, s2, s3, q09, q0a]
    rfl
   refine q0e (i := 23) (N := some 29) (v := undef) (a' := ?_) #[true, true, true, true, true, true, true, true, true, true, true, true, true, true, true, true, true, true, true, true, true, true, true, true, false, false, false] rfl rfl (q0b HT_.out (by kernel_rfl)) (fun _ _ _ h => h) (Or.inr ⟨by rfl, rfl⟩) ?_ ?_
   rotate_left
   ·simp only [Act.put, s1, s2, s3, q09, q0a]
    rfl
   refine q0e (i := 24) (N := some 30) (v := undef) (a' := ?_) #[true, true, true, true, true, true, true, true, true, true, true, true, true, true, true, true, true, true, true, true, true, true, true, true, true, false, false] rfl rfl (q0b HT_.out (by kernel_rfl)) (fun _ _ _ h => h) (Or.inr ⟨by rfl, rfl⟩) ?_ ?_
   rotate_left
   ·simp only [Act.put, s1, s2, s3, q09, q0a]
    rfl
   refine q0e (i := 25) (N := some 31) (v := ?_) (a' := ?_) #[true, true, true, true, true, true, true, true, true, true, true, true, true, true, true, true, true, true, true, true, true, true, true, true, true, true, false] rfl rfl (q0b HT_.out (by kernel_rfl)) (fun _ _ _ h => h) (Or.inl ⟨by rfl, ?_⟩) ?_ ?_
   rotate_left
   ·intro w'
    go_simp
    with_reducible rfl
   rotate_left
   ·simp only [Act.put, s1, s2, s3, q09, q0a]
    rfl
   refine q0e (i := 26) (N := some 5) (v := ?_) (a' := ?_) #[true, true, true, true, true, true, true, true, true, true, true, true, true, true, true, true, true, true, true, true, true, true, true, true, true, true, true] rfl rfl (q0b HT_.out (by kernel_rfl)) (fun _ _ _ h => h) (Or.inl ⟨by rfl, ?_⟩) ?_ ?_
   rotate_left
   ·intro w'
    go_simp
    with_reducible rfl
   rotate_left
   ·simp only [Act.put, s1, s2, s3, q09, q0a]
    rfl
   refine done_ (q1l HT_.out (by kernel_rfl)) ?_
   try go_wp2
   go_meet
   case rel => exact ⟨_, _, zi, H', ⟨by first | omega | exact Nat.le_refl _⟩, ⟨by (with_reducible repeat (first | refine kN ?_ _ | refine kD ?_ | refine kA ?_ _)); exact BK266.out⟩, ⟨by (with_reducible repeat (first | refine kN ?_ _ | refine kD ?_ | refine kA ?_ _)); exact BK267.out⟩, ⟨by repeat (first | (with_reducible first | exact HB.out | apply bA | apply bN | apply bD | refine bS ?_ GE266.out | refine bS ?_ GE267.out) | exact HB.out)⟩⟩
  case n10 =>
   replace H := iB H
   obtain ⟨t268, A12, H⟩ := H
   have H' := aS H
   clear H
   try go_wp2
   have n0_ := aS (q0v BK266.out)
   have n1_ := aS (q0v BK267.out)
   have n2_ := aS (q0t HB.out)
   clear BK266
   clear BK267
   clear HB
   have BK266 := n0_
   have BK267 := n1_
   have HB := n2_
   clear n0_ n1_ n2_
   refine start_ (n := 27) (S := fun w' => w'.cell? ⟨gb267, 0, none⟩ = some (.int .i64 a1_0) ∧ w'.cell? ⟨gb267, 1, none⟩ = some (.int .i64 a1_1) ∧ w'.cell? ⟨gb266, 0, none⟩ = some (.slice A0_0 l0_0.length c0_0) ∧ w'.cell? ⟨gb266, 1, none⟩ = some (.bool a0_1)) (ds := []) #[false, false, false, false, false, false, false, false, false, false, false, false, false, false, false, false, false, false, false, false, false, false, false, false, false, false, false] (by kernel_rfl) rfl rfl ⟨(q03 BK267.out 0).trans rfl, (q03 BK267.out 1).trans rfl, (q03 BK266.out 0).trans rfl, (q03 BK266.out 1).trans rfl⟩ (fun hHeld => ?_); refine q14 span_ranger_point.tab1 span_ranger_point.bits1 (fun HT_ HW_ => ?_)
   generalize w5.drew = w13 at BK266 BK267 HB hHeld ⊢
   refine q0e (i := 0) (N := some 6) (v := ?_) (a' := ?_) #[true, false, false, false, false, false, false, false, false, false, false, false, false, false, false, false, false, false, false, false, false, false, false, false, false, false, false] rfl rfl (q0b HT_.out (by kernel_rfl)) (fun _ _ _ h => h) (Or.inl ⟨by rfl, ?_⟩) ?_ ?_
   rotate_left
   ·intro w'
    go_simp
    with_reducible rfl
   rotate_left
   ·simp only [Act.put, s1, s2, s3, q09, q0a]
    rfl
   refine take_ (i := 1) (N := some 7) (v := ?_) (a' := ?_) #[true, true, false, false, false, false, false, false, false, false, false, false, false, false, false, false, false, false, false, false, false, false, false, false, false, false, false] rfl rfl (q0m HT_.out HW_.out (by kernel_rfl)) (fun _ _ _ h => h) (Or.inl ⟨by rfl, ?_⟩) hHeld ?_ ?_
   rotate_left
   ·rintro w' ⟨s0, s1, s2, s3⟩
    go_simp
    with_reducible rfl
   rotate_left
   ·simp only [Act.put, s1, s2, s3, q09, q0a]
    rfl
   refine q0e (i := 2) (N := some 8) (v := ?_) (a' := ?_) #[true, true, true, false, false, false, false, false, false, false, false, false, false, false, false, false, false, false, false, false, false, false, false, false, false, false, false] rfl rfl (q0b HT_.out (by kernel_rfl)) (fun _ _ _ h => h) (Or.inl ⟨by rfl, ?_⟩) ?_ ?_
   rotate_left
   ·intro w'
    go_simp
    with_reducible rfl
   rotate_left
   ·simp only [Act.put, s1, s2, s3, q09, q0a]
    rfl
   refine q0e (i := 3) (N := some 9) (v := ?_) (a' := ?_) #[true, true, true, true, false, false, false, false, false, false, false, false, false, false, false, false, false, false, false, false, false, false, false, false, false, false, false] rfl rfl (q0b HT_.out (by kernel_rfl)) (fun _ _ _ h => h) (Or.inl ⟨by rfl, ?_⟩) ?_ ?_
   rotate_left
   ·intro w'
    go_simp
    with_reducible rfl
   rotate_left
   ·simp only [Act.put, s1, s2, s3, q09, q0a]
    rfl
   refine q0e (i := 4) (N := some 10) (v := ?_) (a' := ?_) #[true, true, true, true, true, false, false, false, false, false, false, false, false, false, false, false, false, false, false, false, false, false, false, false, false, false, false] rfl rfl (q0b HT_.out (by kernel_rfl)) (fun _ _ _ h => h) (Or.inl ⟨by rfl, ?_⟩) ?_ ?_
   rotate_left
   ·intro w'
    go_simp
    with_reducible rfl
   rotate_left
   ·simp only [Act.put, s1, s2, s3, q09, q0a]
    rfl
   refine q0e (i := 6) (N := some 12) (v := ?_) (a' := ?_) #[true, true, true, true, true, false, true, false, false, false, false, false, false, false, false, false, false, false, false, false, false, false, false, false, false, false, false] rfl rfl (q0b HT_.out (by kernel_rfl)) (fun _ _ _ h => h) (Or.inl ⟨by rfl, ?_⟩) ?_ ?_
   rotate_left
   ·intro w'
    go_simp
    with_reducible rfl
   rotate_left
   ·simp only [Act.put, s1, s2, s3, q09, q0a]
    rfl
   refine q0e (i := 7) (N := some 13) (v := ?_) (a' := ?_) #[true, true, true, true, true, false, true, true, false, false, false, false, false, false, false, false, false, false, false, false, false, false, false, false, false, false, false] rfl rfl (q0b HT_.out (by kernel_rfl)) (fun _ _ _ h => h) (Or.inl ⟨by rfl, ?_⟩) ?_ ?_
   rotate_left
   ·intro w'
    go_simp
    with_reducible rfl
   rotate_left
   ·simp only [Act.put, s1, s2, s3, q09, q0a]
    rfl
   refine take_ (i := 5) (N := some 11) (v := ?_) (a' := ?_) #[true, true, true, true, true, true, true, true, false, false, false, false, false, false, false, false, false, false, false, false, false, false, false, false, false, false, false] rfl rfl (q0m HT_.out HW_.out (by kernel_rfl)) (fun _ _ _ h => h) (Or.inl ⟨by rfl, ?_⟩) hHeld ?_ ?_
   rotate_left
   ·rintro w' ⟨s0, s1, s2, s3⟩
    go_simp
    with_reducible rfl
   rotate_left
   ·simp only [Act.put, s1, s2, s3, q09, q0a]
    rfl
   refine take_ (i := 8) (N := some 14) (v := ?_) (a' := ?_) #[true, true, true, true, true, true, true, true, true, false, false, false, false, false, false, false, false, false, false, false, false, false, false, false, false, false, false] rfl rfl (q0m HT_.out HW_.out (by kernel_rfl)) (fun _ _ _ h => h) (Or.inl ⟨by rfl, ?_⟩) hHeld ?_ ?_
   rotate_left
   ·rintro w' ⟨s0, s1, s2, s3⟩
    go_simp
    with_reducible rfl
   rotate_left
   ·simp only [Act.put, s1, s2, s3, q09, q0a]
    rfl
   refine q0e (i := 9) (N := some 15) (v := ?_) (a' := ?_) #[true, true, true, true, true, true, true, true, true, true, false, false, false, false, false, false, false, false, false, false, false, false, false, false, false, false, false] rfl rfl (q0b HT_.out (by kernel_rfl)) (fun _ _ _ h => h) (Or.inl ⟨by rfl, ?_⟩) ?_ ?_
   rotate_left
   ·intro w'
    go_simp
    with_reducible rfl
   rotate_left
   ·simp only [Act.put, s1, s2, s3, q09, q0a]
    rfl
   refine q0e (i := 10) (N := some 16) (v := ?_) (a' := ?_) #[true, true, true, true, true, true, true, true, true, true, true, false, false, false, false, false, false, false, false, false, false, false, false, false, false, false, false] rfl rfl (q0b HT_.out (by kernel_rfl)) (fun _ _ _ h => h) (Or.inl ⟨by rfl, ?_⟩) ?_ ?_
   rotate_left
   ·intro w'
    go_simp
    with_reducible rfl
   rotate_left
   ·simp only [Act.put, s1, s2, s3, q09, q0a]
    rfl
   refine q0e (i := 11) (N := some 17) (v := ?_) (a' := ?_) #[true, true, true, true, true, true, true, true, true, true, true, true, false, false, false, false, false, false, false, false, false, false, false, false, false, false, false] rfl rfl (q0b HT_.out (by kernel_rfl)) (fun _ _ _ h => h) (Or.inl ⟨by rfl, ?_⟩) ?_ ?_
   rotate_left
   ·intro w'
    go_simp
    with_reducible rfl
   rotate_left
   ·simp only [Act.put, s1, s2, s3, q09, q0a]
    rfl
   refine q0e (i := 12) (N := some 18) (v := ?_) (a' := ?_) #[true, true, true, true, true, true, true, true, true, true, true, true, true, false, false, false, false, false, false, false, false, false, false, false, false, false, false] rfl rfl (q0b HT_.out (by kernel_rfl)) (fun _ _ _ h => h) (Or.inl ⟨by rfl, ?_⟩) ?_ ?_
   rotate_left
   ·intro w'
    go_simp
    with_reducible rfl
   rotate_left
   ·simp only [Act.put, s1, s2, s3, q09, q0a]
    rfl
   refine q0e (i := 13) (N := some 19) (v := ?_) (a' := ?_) #[true, true, true, true, true, true, true, true, true, true, true, true, true, true, false, false, false, false, false, false, false, false, false, false, false, false, false] rfl rfl (q0b HT_.out (by kernel_rfl)) (fun _ _ _ h => h) (Or.inl ⟨by rfl, ?_⟩) ?_ ?_
   rotate_left
   ·intro w'
    go_simp
    with_reducible rfl
   rotate_left
   ·simp only [Act.put, s1, s2, s3, q09, q0a]
    rfl
   refine take_ (i := 14) (N := some 20) (v := ?_) (a' := ?_) #[true, true, true, true, true, true, true, true, true, true, true, true, true, true, true, false, false, false, false, false, false, false, false, false, false, false, false] rfl rfl (q0m HT_.out HW_.out (by kernel_rfl)) (fun _ _ _ h => h) (Or.inl ⟨by rfl, ?_⟩) hHeld ?_ ?_
   rotate_left
   ·rintro w' ⟨s0, s1, s2, s3⟩
    go_simp
    with_reducible rfl
   rotate_left
   ·simp only [Act.put, s1, s2, s3, q09, q0a]
    rfl
   refine q0e (i := 15) (N := some 21) (v := ?_) (a' := ?_) #[true, true, true, true, true, true, true, true, true, true, true, true, true, true, true, true, false, false, false, false, false, false, false, false, false, false, false] rfl rfl (q0b HT_.out (by kernel_rfl)) (fun _ _ _ h => h) (Or.inl ⟨by rfl, ?_⟩) ?_ ?_
   rotate_left
   ·intro w'
    go_simp
    with_reducible rfl
   rotate_left
   ·simp only [Act.put, s1, s2, s3, q09, q0a]
    rfl
   refine q0e (i := 16) (N := some 22) (v := ?_) (a' := ?_) #[true, true, true, true, true, true, true, true, true, true, true, true, true, true, true, true, true, false, false, false, false, false, false, false, false, false, false] rfl rfl (q0b HT_.out (by kernel_rfl)) (fun _ _ _ h => h) (Or.inl ⟨by rfl, ?_⟩) ?_ ?_
   rotate_left
   ·intro w'
    go_simp
    with_reducible rfl
   rotate_left
   ·simp only [Act.put, s1, s2, s3, q09, q0a]
    rfl
   refine q0e (i := 17) (N := some 23) (v := ?_) (a' := ?_) #[true, true, true, true, true, true, true, true, true, true, true, true, true, true, true, true, true, true, false, false, false, false, false, false, false, false, false] rfl rfl (q0b HT_.out (by kernel_rfl)) (fun _ _ _ h => h) (Or.inl ⟨by rfl, ?_⟩) ?_ ?_
   rotate_left
   ·intro w'
    go_simp
    with_reducible rfl
   rotate_left
   ·simp only [Act.put, s1, s2, s3, q09, q0a]
    rfl
   refine q0e (i := 18) (N := some 24) (v := ?_) (a' := ?_) #[true, true, true, true, true, true, true, true, true, true, true, true, true, true, true, true, true, true, true, false, false, false, false, false, false, false, false] rfl rfl (q0b HT_.out (by kernel_rfl)) (fun _ _ _ h => h) (Or.inl ⟨by rfl, ?_⟩) ?_ ?_
   rotate_left
   ·intro w'
    go_simp
    with_reducible rfl
   rotate_left
   ·simp only [Act.put, s1, s2, s3, q09, q0a]
    rfl
   refine q0e (i := 21) (N := some 27) (v := ?_) (a' := ?_) #[true, true, true, true, true, true, true, true, true, true, true, true, true, true, true, true, true, true, true, false, false, true, false, false, false, false, false] rfl rfl (q0b HT_.out (by kernel_rfl)) (fun _ _ _ h => h) (Or.inl ⟨by rfl, ?_⟩) ?_ ?_
   rotate_left
   ·intro w'
    go_simp
    with_reducible rfl
   rotate_left
   ·simp only [Act.put, s1, s2, s3, q09, q0a]
    rfl
   refine take_ (i := 19) (N := some 25) (v := ?_) (a' := ?_) #[true, true, true, true, true, true, true, true, true, true, true, true, true, true, true, true, true, true, true, true, false, true, false, false, false, false, false] rfl rfl (q0m HT_.out HW_.out (by kernel_rfl)) (fun _ _ _ h => h) (Or.inl ⟨by rfl, ?_⟩) hHeld ?_ ?_
   rotate_left
   ·rintro w' ⟨s0, s1, s2, s3⟩
    go_simp
    with_reducible rfl
   rotate_left
   ·simp only [Act.put, s1, s2, s3, q09, q0a]
    rfl
   refine take_ (i := 20) (N := some 26) (v := ?_) (a' := ?_) #[true, true, true, true, true, true, true, true, true, true, true, true, true, true, true, true, true, true, true, true, true, true, false, false, false, false, false] rfl rfl (q0m HT_.out HW_.out (by kernel_rfl)) (fun _ _ _ h => h) (Or.inl ⟨by rfl, ?_⟩) hHeld ?_ ?_
   rotate_left
   ·rintro w' ⟨s0, s1, s2, s3⟩
    go_simp
    with_reducible rfl
   rotate_left
   ·simp only [Act.put, s1, s2, s3, q09, q0a]
    rfl
   refine take_ (i := 22) (N := some 28) (v := ?_) (a' := ?_) #[true, true, true, true, true, true, true, true, true, true, true, true, true, true, true, true, true, true, true, true, true, true, true, false, false, false, false] rfl rfl (q0m HT_.out HW_.out (by kernel_rfl)) (fun _ _ _ h => h) (Or.inl ⟨by rfl, ?_⟩) hHeld ?_ ?_
   rotate_left
   ·rintro w' ⟨s0, s1, s2, s3⟩
    go_simp
    with_reducible rfl
   rotate_left
   ·simp only [Act.put, s1, s2, s3, q09, q0a]
    rfl
   refine one_ (i := 23) (N := some 29) #[true, true, true, true, true, true, true, true, true, true, true, true, true, true, true, true, true, true, true, true, true, true, true, true, false, false, false] rfl rfl (q1j HT_.out (by kernel_rfl)) (by decide) (fun K hK => ?_)
   refine goes_ Tryd.func145 (by kernel_rfl) rfl #[.agg #[.slice A0_0 l0_0.length c0_0, .bool a0_1], .int .i64 a1_0] (by rfl) rfl rfl zc ?_
   with_reducible refine (span_ranger_room.calls _ _ l0_0 a0_1 a1_0 t268 _ ?side1 ?side2 A12.out).mono ?_
   (case side1 => repeat (first | exact (Kd.C_below HR0_0.out HB.out) | (with_reducible refine cA ?_ _) | (with_reducible refine cN ?_ _) | (with_reducible refine cD ?_)))
   (case side2 => exact HC0_0.out)
   rintro e w14 ⟨rfl, hb⟩
   refine ⟨_, rfl, ?_⟩
   have n0_ := aS (q01 (g := gb266) (o := .cells #[.slice A0_0 l0_0.length c0_0, .bool a0_1] 124 (0, 0)) (za BK266.out) hb)
   have n1_ := aS (q01 (g := gb267) (o := .cells #[.int .i64 a1_0, .int .i64 a1_1] 50 (0, 0)) (za BK267.out) hb)
   have n2_ := aS (q02 (by repeat (first | (with_reducible first | exact HB.out | apply bA | apply bN | apply bD | refine bS ?_ GE266.out | refine bS ?_ GE267.out) | exact HB.out)) hb)
   clear BK266
   clear BK267
   clear HB
   have BK266 := n0_
   have BK267 := n1_
   have HB := n2_
   clear n0_ n1_ n2_
   (try clear hb)
   (try clear hb2)
   (try clear hk)
   (try clear hi)
   refine hK.out _ _ ⟨(q03 BK267.out 0).trans rfl, (q03 BK267.out 1).trans rfl, (q03 BK266.out 0).trans rfl, (q03 BK266.out 1).trans rfl⟩ (fun hHeld => ?_)
   clear hK K
   refine norm_ (a' := ?_) ?_ ?_
   rotate_left
   ·show Act.put _ (some 29) _ = _
    simp only [Act.put, s1, s2, s3, q09, q0a]
    rfl
   refine q0e (i := 24) (N := some 30) (v := ?_) (a' := ?_) #[true, true, true, true, true, true, true, true, true, true, true, true, true, true, true, true, true, true, true, true, true, true, true, true, true, false, false] rfl rfl (q0b HT_.out (by kernel_rfl)) (fun _ _ _ h => h) (Or.inl ⟨by rfl, ?_⟩) ?_ ?_
   rotate_left
   ·intro w'
    go_simp
    with_reducible rfl
   rotate_left
   ·simp only [Act.put, s1, s2, s3, q09, q0a]
    rfl
   refine q0e (i := 25) (N := some 31) (v := ?_) (a' := ?_) #[true, true, true, true, true, true, true, true, true, true, true, true, true, true, true, true, true, true, true, true, true, true, true, true, true, true, false] rfl rfl (q0b HT_.out (by kernel_rfl)) (fun _ _ _ h => h) (Or.inl ⟨by rfl, ?_⟩) ?_ ?_
   rotate_left
   ·intro w'
    go_simp
    with_reducible rfl
   rotate_left
   ·simp only [Act.put, s1, s2, s3, q09, q0a]
    rfl
   refine q0e (i := 26) (N := some 5) (v := ?_) (a' := ?_) #[true, true, true, true, true, true, true, true, true, true, true, true, true, true, true, true, true, true, true, true, true, true, true, true, true, true, true] rfl rfl (q0b HT_.out (by kernel_rfl)) (fun _ _ _ h => h) (Or.inl ⟨by rfl, ?_⟩) ?_ ?_
   rotate_left
   ·intro w'
    go_simp
    with_reducible rfl
   rotate_left
   ·simp only [Act.put, s1, s2, s3, q09, q0a]
    rfl
   refine done_ (q1l HT_.out (by kernel_rfl)) ?_
   try go_wp2
   go_meet
   case rel => exact ⟨_, _, zi, H', ⟨by first | omega | exact Nat.le_refl _⟩, ⟨by (with_reducible repeat (first | refine kN ?_ _ | refine kD ?_ | refine kA ?_ _)); exact BK266.out⟩, ⟨by (with_reducible repeat (first | refine kN ?_ _ | refine kD ?_ | refine kA ?_ _)); exact BK267.out⟩, ⟨by repeat (first | (with_reducible first | exact HB.out | apply bA | apply bN | apply bD | refine bS ?_ GE266.out | refine bS ?_ GE267.out) | exact HB.out)⟩⟩
 case rest =>
  clear HC3
  obtain ⟨kq, x5_2, rfl, HA, HJ2, BK266, BK267, HB⟩ := hcut
  cases kq with
  | zero => exact absurd HA.out (by simp [span_ranger_point.j0])
  | succ kj2 =>
   have H := HA.out
   clear HA
   simp only [span_ranger_point.j0] at H
   refine iV H ?p15 ?n15 <;> clear H
   case' p15 => intro c15 H; subst c15
   case' n15 => intro c15 H; subst c15; replace H := iB H; obtain ⟨t269, A16, H⟩ := H; refine iE H ?p17 ?n17 <;> clear H
   case' p17 => intro c17b0 c17b1 H
   case' n17 => intro c17 c17b0 c17b1 H
   case p15 =>
    obtain rfl := Option.some.inj H
    go_wp2
    go_ret
    exact ⟨by first | rfl | (simp [q05, q04] <;> rfl) | (simp [*, q05, q04] <;> rfl), by repeat (first | (with_reducible first | exact HB.out | apply bA | apply bN | apply bD | refine bS ?_ GE266.out | refine bS ?_ GE267.out) | exact HB.out)⟩
   case p17 =>
    obtain rfl := Option.some.inj H
    have hnb18 := NB266_267.out
    have hnc18 := NB267_266.out
    obtain ⟨hczL_0, hczL_1, hfzL_0, hfzL_1⟩ := bk2 BK266.out
    obtain ⟨hczL_0, hczL_1, hfzL_0, hfzL_1⟩ := bk2 BK267.out
    go_wp2_with (first | ((with_reducible refine q08 (f := 128) rfl ?_); refine q0n (some 35) rfl rfl Tryd.func128 (by kernel_rfl) rfl #[.agg #[.slice A0_0 l0_0.length c0_0, .bool a0_1], .agg #[.int .i64 a1_0, .int .i64 a1_1]] rfl zc ?_; (with_reducible refine (span_ranger_path.core kj2 _ _ l0_0 a0_1 a1_0 a1_1 t269 _ ?side1 ?side2 A16.out).mono ?_); (case side1 => repeat (first | exact (Kd.C_below HR0_0.out HB.out) | (with_reducible refine cA ?_ _) | (with_reducible refine cN ?_ _) | (with_reducible refine cD ?_))); (case side2 => exact HC0_0.out); rintro e w21 ⟨v270, rfl, hn0, ho0, hb⟩; obtain rfl := hn0 (List.length_eq_zero_iff.1 (beq_iff_eq.1 c17b0)); refine ⟨_, rfl, ?_⟩; have HO271 := aS (Kd.R_lower ho0 (q06 (by repeat (first | (with_reducible first | exact HB.out | apply bA | apply bN | apply bD | refine bS ?_ GE266.out | refine bS ?_ GE267.out) | exact HB.out)))); replace BK266 := aS (q01 (g := gb266) (o := .cells #[.slice A0_0 l0_0.length c0_0, .bool a0_1] 124 (0, 0)) (za BK266.out) hb); replace BK267 := aS (q01 (g := gb267) (o := .cells #[.int .i64 a1_0, .int .i64 a1_1] 50 (0, 0)) (za BK267.out) hb); replace HB := aS (q02 (by repeat (first | (with_reducible first | exact HB.out | apply bA | apply bN | apply bD | refine bS ?_ GE266.out | refine bS ?_ GE267.out) | exact HB.out)) hb); (try clear hb); (try clear hb2); (try clear hk); (try clear hi); (try clear ho0)))
    go_ret
    exact ⟨by first | rfl | (simp [q05, q04] <;> rfl) | (simp [*, q05, q04] <;> rfl), by repeat (first | (with_reducible first | exact HB.out | apply bA | apply bN | apply bD | refine bS ?_ GE266.out | refine bS ?_ GE267.out) | exact HB.out)⟩
   case n17 =>
    obtain rfl := Option.some.inj H
    have hnb22 := NB266_267.out
    have hnc22 := NB267_266.out
    obtain ⟨hczL_0, hczL_1, hfzL_0, hfzL_1⟩ := bk2 BK266.out
    obtain ⟨hczL_0, hczL_1, hfzL_0, hfzL_1⟩ := bk2 BK267.out
    go_wp2_with (first | ((with_reducible refine q08 (f := 128) rfl ?_); refine q0n (some 35) rfl rfl Tryd.func128 (by kernel_rfl) rfl #[.agg #[.slice A0_0 l0_0.length c0_0, .bool a0_1], .agg #[.int .i64 a1_0, .int .i64 a1_1]] rfl zc ?_; (with_reducible refine (span_ranger_path.core kj2 _ _ l0_0 a0_1 a1_0 a1_1 t269 _ ?side1 ?side2 A16.out).mono ?_); (case side1 => repeat (first | exact (Kd.C_below HR0_0.out HB.out) | (with_reducible refine cA ?_ _) | (with_reducible refine cN ?_ _) | (with_reducible refine cD ?_))); (case side2 => exact HC0_0.out); rintro e w25 ⟨v270, rfl, hn0, ho0, hb⟩; obtain ⟨bn_, cn_, en_, -, -, -⟩ := Kd.R_form ho0 (Nat.pos_of_ne_zero c17); subst en_; refine ⟨_, rfl, ?_⟩; have HO271 := aS (Kd.R_lower ho0 (q06 (by repeat (first | (with_reducible first | exact HB.out | apply bA | apply bN | apply bD | refine bS ?_ GE266.out | refine bS ?_ GE267.out) | exact HB.out)))); replace BK266 := aS (q01 (g := gb266) (o := .cells #[.slice A0_0 l0_0.length c0_0, .bool a0_1] 124 (0, 0)) (za BK266.out) hb); replace BK267 := aS (q01 (g := gb267) (o := .cells #[.int .i64 a1_0, .int .i64 a1_1] 50 (0, 0)) (za BK267.out) hb); replace HB := aS (q02 (by repeat (first | (with_reducible first | exact HB.out | apply bA | apply bN | apply bD | refine bS ?_ GE266.out | refine bS ?_ GE267.out) | exact HB.out)) hb); (try clear hb); (try clear hb2); (try clear hk); (try clear hi); (try clear ho0)))
    go_ret
    exact ⟨by first | rfl | (simp [q05, q04] <;> rfl) | (simp [*, q05, q04] <;> rfl), by repeat (first | (with_reducible first | exact HB.out | apply bA | apply bN | apply bD | refine bS ?_ GE266.out | refine bS ?_ GE267.out) | exact HB.out)⟩
end Go.Proofs.YthjnallbbhnndaaDoor.XSp
