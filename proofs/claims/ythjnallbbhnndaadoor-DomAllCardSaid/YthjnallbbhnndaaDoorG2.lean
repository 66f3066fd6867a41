/- Written by this session's program (wip/xp) out of the translation as Lean prints it: for each Go function a Lean function and the proof that the code answers just so, on the conditions named in each statement. -/
import Derived.Test.YthjnallbbhnndaaDoorG1
import Derived.Lib.SlTrimSet
namespace Go.Proofs.YthjnallbbhnndaaDoor.XDe
open Go.Proofs.YthjnallbbhnndaaDoor.Short Go.RowKit Go.Proofs.YthjnallbbhnndaaDoorW.PrintWords Go.Proofs.YthjnallbbhnndaaDoorW.PrintLast Go.Proofs.YthjnallbbhnndaaDoorW.PrintMore
attribute [local go_sem] q16 q14 q1g q1f q0s q0r q15 q13   -- for this text's walks alone
set_option linter.unusedVariables false
set_option linter.unusedSimpArgs false
def clerestorylaw1_few.f (l0_0 : List (S43)) (a0_1 : Bool) (a1 : Int) : Option ((List (S43)) × Bool) := if 0 ≤ (mn (l0_0.length : Int) a1) then (if (mn (l0_0.length : Int) a1) ≤ (l0_0.length : Int) then (some ((l0_0.take ((mn (l0_0.length : Int) a1) : Int).toNat), a0_1)) else (none)) else (none)
set_option maxHeartbeats 8000000 in
set_option maxRecDepth 100000 in
theorem clerestorylaw1_few.calls (P0_0_ : Nat → Prop) (A0_0 : Option Addr) (c0_0 : Nat) (l0_0 : List (S43)) (a0_1 : Bool) (a1 : Int) (r1 : List (S43)) (r2 : Bool) (w : World) (hs0_0 : Kd.V k43 43 w w.heap.size (fun k_ => P0_0_ k_) (.slice A0_0 l0_0.length c0_0) l0_0) (h : clerestorylaw1_few.f l0_0 a0_1 a1 = some (r1, r2)) :
 Calls Tryd.prog 15 #[.agg #[.slice A0_0 l0_0.length c0_0, .bool a0_1], .int .i64 a1] w fun e w' => ∃ v0_ : Value, e = .returned (.agg #[v0_, .bool r2]) ∧ Kd.V k43 43 w' w.heap.size (fun k_ => (P0_0_ k_ ∨ w.heap.size ≤ k_)) v0_ r1 ∧ Below w.heap.size w w' := by
 have hu24 := Tryd.underlying24
 have HO0_0 := aS (show Kd.V k43 43 w w.heap.size (fun k_ => (P0_0_ k_ ∨ w.heap.size ≤ k_)) (.slice A0_0 l0_0.length c0_0) l0_0 from Kd.V_mono hs0_0 (fun k_ hk => .inl hk))
 have HB := aS (Below.refl w.heap.size w)
 have H := h; clear h; unfold clerestorylaw1_few.f at H
 obtain ⟨ji3, hji3⟩ : ∃ j_ : Int, (mn (l0_0.length : Int) a1) = j_ := ⟨_, rfl⟩
 replace H : (if 0 ≤ (ji3) then (if (ji3) ≤ (l0_0.length : Int) then (some ((l0_0.take ((ji3) : Int).toNat), a0_1)) else (none)) else (none)) = some (r1, r2) := by first | (rw [hji3] at H; exact H) | (simp only [hji3] at H ⊢; exact H)
 have hji3_ : (if a1 < (l0_0.length : Int) then a1 else (l0_0.length : Int)) = ji3 := hji3
 refine iGp H ?_; clear H; intro c4 H
 have c4b0 := eq_true c4
 have c4b1 : decide (0 ≤ (ji3)) = true := decide_eq_true c4
 clear c4
 refine iGp H ?_; clear H; intro c5 H
 have c5b0 := eq_true c5
 have c5b1 : decide ((ji3) ≤ (l0_0.length : Int)) = true := decide_eq_true c5
 clear c5
 obtain ⟨y103, hy103⟩ : ∃ y_ : List (S43), y_ = (l0_0.take ((ji3) : Int).toNat) := ⟨_, rfl⟩
 replace H : (some (y103, a0_1)) = some (r1, r2) := by first | (rw [hy103]; with_reducible exact H) | (have H2_ := (Option.bind_some _ _).symm.trans H; rw [hy103]; with_reducible exact H2_) | (have H2_ := (Option.bind_some _ _).symm.trans H; with_reducible exact H2_) | with_reducible exact H | (rw [hy103]; exact H) | exact H
 have Ny103 := aS hy103
 clear hy103
 simp only [Option.some.injEq, Prod.mk.injEq] at H
 obtain ⟨rfl, rfl⟩ := H
 go_enter Tryd.func15, Tryd.ntmps15
 go_wp2_with (first | ((with_reducible refine q07 (N := 2) rfl ?_); refine q0t ?hg (N := 2) ?hd (cs := #[.slice A0_0 l0_0.length c0_0, .bool a0_1]) (t := 24) ?hr ?_; (case hd => rfl); (case hg => rfl); (case hr => first | (go_simp; done) | (go_simp; rfl)); intro gb101 hg w6 hbox hb; replace HO0_0 := aS (Kd.V_below (Kd.V_elderB (ze HO0_0.out) gb101 (Nat.le_of_eq hg.symm)) hb); have BK101 := aS (hbox); have GW101 := aS ((by rw [hg]; exact (q0c (z7 HB.out)) : w.heap.size ≤ gb101)); have GE101 := aS ((by rw [hg]; exact (q0c (z7 HB.out)) : w.heap.size ≤ gb101)); replace HB := aS (q01 (z7 HB.out) hb); clear hb hbox hg) | ((with_reducible refine q07 (N := 4) rfl ?_); refine q0t ?hg (N := 4) ?hd (cs := #[.slice none 0 0, .bool false]) (t := 24) ?hr ?_; (case hd => rfl); (case hg => rfl); (case hr => first | (go_simp; done) | (go_simp; rfl)); intro gb102 hg w7 hbox hb; have n0_ := aS (Kd.V_below (Kd.V_elderB (ze HO0_0.out) gb102 (Nat.le_of_eq hg.symm)) hb); have n1_ := aS (q02 (g := gb101) (o := .cells #[.slice A0_0 l0_0.length c0_0, .bool a0_1] 24 (0, 0)) (za BK101.out) hb); have n2_ := aS (q01 (z6 HB.out GE101.out) hb); have n3_ := aS (hbox); have n4_ := aS ((by rw [hg]; exact (q0c (z6 HB.out GE101.out)) : w.heap.size ≤ gb102)); have n5_ := aS ((by rw [hg]; exact (q0c (z6 HB.out GE101.out)) : w.heap.size ≤ gb102)); have n6_ := aS ((by rw [hg]; exact Nat.ne_of_lt (q0a (g := gb101) (o := .cells #[.slice A0_0 l0_0.length c0_0, .bool a0_1] 24 (0, 0)) (za BK101.out)) : gb101 ≠ gb102)); have n7_ := aS ((by rw [hg]; exact Nat.ne_of_gt (q0a (g := gb101) (o := .cells #[.slice A0_0 l0_0.length c0_0, .bool a0_1] 24 (0, 0)) (za BK101.out)) : gb102 ≠ gb101)); clear HO0_0; clear BK101; clear HB; have HO0_0 := n0_; have BK101 := n1_; have HB := n2_; have BK102 := n3_; have GW102 := n4_; have GE102 := n5_; have NB101_102 := n6_; have NB102_101 := n7_; clear n0_ n1_ n2_ n3_ n4_ n5_ n6_ n7_; clear hb hbox hg; have hnb8 := NB101_102.out; have hnc8 := NB102_101.out; obtain ⟨hczL_0, hczL_1, hfzL_0, hfzL_1⟩ := bk2 BK101.out; have q10 : ((ji3) : Int) ≤ ((l0_0.length : Int) : Int) := od zb; obtain ⟨i010, hi010, _, hsz10, _⟩ := info_parts info43; have hroom10 : l0_0.length ≤ c0_0 := (Kd.V_reads' HO0_0.out).2.1; have hC10 : Kd.F k43 _ _ A0_0 l0_0.length l0_0 := (Kd.V_at (base := w.heap.size) HO0_0.out).2.2; have hcut10 := cut_to (P := Tryd.prog) 22 43 .i64 Tryd.underlying22 hi010 A0_0 l0_0.length c0_0 (ji3) (od zb) q10 hroom10; have hr10 := Kd.F_take (m := ((ji3) : Int).toNat) hC10 (by omega); have hy10 : y103.length = ((ji3) : Int).toNat := (by rw [Ny103.out, List.length_take]; omega); rw [← Ny103.out] at hr10; rw [← hy10] at hcut10; have HO107 := aS (show Kd.V k43 43 _ w.heap.size _ (.slice A0_0 y103.length c0_0) y103 from Kd.V_mk (by omega) hr10); have HC107 := aS (show y103.length ≤ c0_0 from by omega); clear hr10 hC10 hroom10 hi010 hsz10; have KY10 := aS hy10; clear hy10; replace q10 := eq_true q10; obtain ⟨hczL_0, hczL_1, hfzL_0, hfzL_1⟩ := bk2 BK102.out))
 refine bodyPost_ret (results_cell_row rfl _ _ gb102 24 #[.slice A0_0 y103.length c0_0, .bool a0_1] (0, 0) _ rfl (by (with_reducible repeat (first | refine kN ?_ _ | refine kD ?_ | refine kA ?_ _)); refine q0o (cs := #[.slice A0_0 y103.length c0_0, .bool false]) ?_ 1 _ rfl; (with_reducible repeat (first | refine kN ?_ _ | refine kD ?_ | refine kA ?_ _)); refine q0o (cs := #[.slice none 0 0, .bool false]) ?_ 0 _ rfl; (with_reducible repeat (first | refine kN ?_ _ | refine kD ?_ | refine kA ?_ _)); refine q0l ?_ NB102_101.out _; (with_reducible repeat (first | refine kN ?_ _ | refine kD ?_ | refine kA ?_ _)); exact BK102.out) Tryd.underlying24 rfl (by kernel_rfl)) rfl ?_
 exact ⟨_, by first | rfl | (simp [q05, q04] <;> rfl) | (simp only [← hji3]; first | rfl | (simp [q05, q04] <;> rfl)) | (simp [*, q05, q04] <;> rfl), by (with_reducible repeat (first | apply vA | apply vN | apply vD)); exact Kd.V_mono (Kd.V_far (p := ⟨gb102, 1, none⟩) (Kd.V_far (p := ⟨gb102, 0, none⟩) (Kd.V_far (p := ⟨gb101, 0, none⟩) (Kd.V_mono (Kd.V_mono HO107.out (fun k_ hk => (⟨hk, hk.1.2⟩ : _ ∧ k_ ≠ gb101))) (fun k_ hk => (⟨hk, hk.1.2⟩ : _ ∧ k_ ≠ gb102))) (fun _ hk => hk.1.2) (.slice A0_0 y103.length c0_0)) (fun _ hk => hk.2) (.slice A0_0 y103.length c0_0)) (fun _ hk => hk.2) (.bool a0_1)) (fun _ hk => hk.1.1.1.1), by repeat (first | (with_reducible first | exact HB.out | apply bA | apply bN | apply bD | refine bS ?_ GE101.out | refine bS ?_ GE102.out) | exact HB.out)⟩
def clerestoryref1_Deep.l0 : Nat → Int → Int → List (S43) → Bool → Option (Int)
 | 0, _, _, _, _ => none
 | k + 1, x1, x5, x109000, x109001 => if 0 ≤ x1 then (if x1 < (x109000.length : Int) then (if ((q00 x109000 x1).f4) ≥ 0 then (if (wrap64 (x5 + 1)) > (x109000.length : Int) then (some (-1)) else (clerestoryref1_Deep.l0 k ((q00 x109000 x1).f4) (wrap64 (x5 + 1)) x109000 x109001)) else (some x5)) else (none)) else (none)
def clerestoryref1_Deep.f (k : Nat) (l0_0 : List (S43)) (a0_1 : Bool) (a1 : Int) : Option (Int) := clerestoryref1_Deep.l0 k a1 0 l0_0 a0_1
theorem clerestoryref1_Deep.mono_l : ∀ k, (∀ y0 y1 y2 y3, LeO (clerestoryref1_Deep.l0 k y0 y1 y2 y3) (clerestoryref1_Deep.l0 (k + 1) y0 y1 y2 y3))
 | 0 => fun _ _ _ _ r h => by simp [clerestoryref1_Deep.l0] at h
 | k + 1 => by
  have ih0 := clerestoryref1_Deep.mono_l k
  ·intro y0 y1 y2 y3
   unfold clerestoryref1_Deep.l0
   repeat' first | with_reducible first | apply ih0 | exact LeO.refl _ | exact LeO.none _ | refine LeO.ite ?_ ?_ | refine LeO.bind ?_ (fun _ => ?_) | (first | apply ih0 | exact LeO.none _ | refine LeO.ite ?_ ?_ | refine LeO.bind ?_ (fun _ => ?_))
theorem clerestoryref1_Deep.mono : ∀ a0 a1 a2 k, LeO (clerestoryref1_Deep.f k a0 a1 a2) (clerestoryref1_Deep.f (k + 1) a0 a1 a2) := by
 intro a0 a1 a2 k
 have ih0 := clerestoryref1_Deep.mono_l k
 unfold clerestoryref1_Deep.f
 repeat' first | with_reducible first | apply ih0 | exact LeO.refl _ | exact LeO.none _ | refine LeO.ite ?_ ?_ | refine LeO.bind ?_ (fun _ => ?_) | (first | apply ih0 | exact LeO.none _ | refine LeO.ite ?_ ?_ | refine LeO.bind ?_ (fun _ => ?_))
set_option maxHeartbeats 8000000 in
set_option maxRecDepth 100000 in
theorem clerestoryref1_Deep.calls (k : Nat) (A0_0 : Option Addr) (c0_0 : Nat) (l0_0 : List (S43)) (a0_1 : Bool) (a1 : Int) (r : Int) (w : World) (hr0_0 : Kd.C k43 w A0_0 l0_0.length l0_0) (hc0_0 : l0_0.length ≤ c0_0) (h : clerestoryref1_Deep.f k l0_0 a0_1 a1 = some r) :
 Calls Tryd.prog 65 #[.agg #[.slice A0_0 l0_0.length c0_0, .bool a0_1], .int .i64 a1] w fun e w' => e = .returned (.int .i64 r) ∧ Below w.heap.size w w' := by
 have hu24 := Tryd.underlying24
 have HR0_0 := aS hr0_0
 have HC0_0 := aS hc0_0
 clear hr0_0 hc0_0
 have HB := aS (Below.refl w.heap.size w)
 have H := h; clear h; unfold clerestoryref1_Deep.f at H
 have H' := aS H
 clear H
 go_enter Tryd.func65, Tryd.ntmps65
 go_wp2_with (first | ((with_reducible refine q07 (N := 2) rfl ?_); refine box0 rfl (N := 2) rfl (cs := #[.slice A0_0 l0_0.length c0_0, .bool a0_1]) (t := 24) zh (z7 HB.out) ?_; clear HB; intro gb108 w3 BK108 GW108 HB; have GE108 := GW108))
 go_loopg [1, 5] k (fun kq v1 v5 w' => ∃ (x1_1 : Int) (x5_1 : Int), v1 = .int .i64 x1_1 ∧ v5 = .int .i64 x5_1 ∧ Aside0 (clerestoryref1_Deep.l0 kq x1_1 x5_1 l0_0 a0_1 = some r) ∧ Aside0 (kq ≤ k) ∧ Aside0 (w'.heap[gb108]? = some (.cells #[(.slice A0_0 l0_0.length c0_0), .bool a0_1] 24 (0, 0))) ∧ Aside0 (Below w.heap.size w w'))
 case atStart => exact ⟨(a1), (0), zi, zi, H', ⟨Nat.le_refl _⟩, ⟨by (with_reducible repeat (first | refine kN ?_ _ | refine kD ?_ | refine kA ?_ _)); exact BK108.out⟩, ⟨by repeat (first | (with_reducible first | exact HB.out | apply bA | apply bN | apply bD | refine bS ?_ GE108.out) | exact HB.out)⟩⟩
 case round =>
  clear H'
  obtain ⟨x1_1, x5_1, rfl, rfl, HA, HK1, BK108, HB⟩ := hrel
  cases gk with
  | zero => exact absurd HA.out (by simp [clerestoryref1_Deep.l0])
  | succ k1 =>
   have H := HA.out
   clear HA
   simp only [clerestoryref1_Deep.l0] at H
   obtain ⟨hczL_0, hczL_1, hfzL_0, hfzL_1⟩ := bk2 BK108.out
   refine iLp H ?_; clear H; intro c4b0 H
   refine iTp H ?_; clear H; intro c5b0 H
   obtain ⟨ad109, A109_2, c109_2, A109_5, c109_5, e109, hx109_0, hx109_1, hx109_2, hx109_3, hx109_4, hx109_5, HC109_2, HR109_2, HC109_5, HR109_5, p109, q109⟩ := q0w HB.out HR0_0.out x1_1 zb zb
   cases e109
   refine iL H ?p6 ?n6 <;> clear H
   case' p6 =>
    intro c6b0 H
    obtain ⟨ad110, A110_2, c110_2, A110_5, c110_5, e110, hx110_0, hx110_1, hx110_2, hx110_3, hx110_4, hx110_5, HC110_2, HR110_2, HC110_5, HR110_5, p110, q110⟩ := q0w HB.out HR0_0.out x1_1 zb zb
    obtain rfl : ad109 = ad110 := (by injection e110)
    refine iT H ?p7 ?n7 <;> clear H
   case' p7 => intro c7b0 H
   case' n7 => intro c7b0 H
   case' n6 => intro c6b0 H
   case p7 =>
    obtain rfl := Option.some.inj H
    have ea_ := Option.some.inj (hx109_2.symm.trans hx110_2)
    injection ea_ with ea_ en_ ec_
    subst ea_
    subst ec_
    clear en_
    have ea_ := Option.some.inj (hx109_5.symm.trans hx110_5)
    injection ea_ with ea_ en_ ec_
    subst ea_
    subst ec_
    clear en_
    go_wp2
    go_ret
    exact ⟨by first | rfl | (simp [q05, q04] <;> rfl) | (simp [*, q05, q04] <;> rfl), by repeat (first | (with_reducible first | exact HB.out | apply bA | apply bN | apply bD | refine bS ?_ GE108.out) | exact HB.out)⟩
   case n7 =>
    have H' := aS H
    clear H
    have ea_ := Option.some.inj (hx109_2.symm.trans hx110_2)
    injection ea_ with ea_ en_ ec_
    subst ea_
    subst ec_
    clear en_
    have ea_ := Option.some.inj (hx109_5.symm.trans hx110_5)
    injection ea_ with ea_ en_ ec_
    subst ea_
    subst ec_
    clear en_
    go_wp2
    go_roundg k1
    case measure => have := HK1.out; omega
    case rel => exact ⟨((q00 l0_0 x1_1).f4), (wrap64 (x5_1 + 1)), zi, zi, H', ⟨by have := HK1.out; omega⟩, ⟨by (with_reducible repeat (first | refine kN ?_ _ | refine kD ?_ | refine kA ?_ _)); exact BK108.out⟩, ⟨by repeat (first | (with_reducible first | exact HB.out | apply bA | apply bN | apply bD | refine bS ?_ GE108.out) | exact HB.out)⟩⟩
   case n6 =>
    obtain rfl := Option.some.inj H
    go_wp2
    go_ret
    exact ⟨by first | rfl | (simp [q05, q04] <;> rfl) | (simp [*, q05, q04] <;> rfl), by repeat (first | (with_reducible first | exact HB.out | apply bA | apply bN | apply bD | refine bS ?_ GE108.out) | exact HB.out)⟩
def clerestoryref1_AttrOf.l0 : Nat → List (S122) → ByteArray → Int → Option (ByteArray × Bool)
 | 0, _, _, _ => none
 | k + 1, x0, x1, x6 => if x6 < (x0.length : Int) then (if 0 ≤ x6 then (if ((q03 x0 x6).f0).toList = x1.toList then (some ((q03 x0 x6).f1, true)) else (clerestoryref1_AttrOf.l0 k x0 x1 (wrap64 (x6 + 1)))) else (none)) else (some ((⟨#[]⟩ : ByteArray), false))
def clerestoryref1_AttrOf.f (k : Nat) (l0 : List (S122)) (a1 : ByteArray) : Option (ByteArray × Bool) := clerestoryref1_AttrOf.l0 k l0 a1 0
theorem clerestoryref1_AttrOf.mono_l : ∀ k, (∀ y0 y1 y2, LeO (clerestoryref1_AttrOf.l0 k y0 y1 y2) (clerestoryref1_AttrOf.l0 (k + 1) y0 y1 y2))
 | 0 => fun _ _ _ r h => by simp [clerestoryref1_AttrOf.l0] at h
 | k + 1 => by
  have ih0 := clerestoryref1_AttrOf.mono_l k
  ·intro y0 y1 y2
   unfold clerestoryref1_AttrOf.l0
   repeat' first | with_reducible first | apply ih0 | exact LeO.refl _ | exact LeO.none _ | refine LeO.ite ?_ ?_ | refine LeO.bind ?_ (fun _ => ?_) | (first | apply ih0 | exact LeO.none _ | refine LeO.ite ?_ ?_ | refine LeO.bind ?_ (fun _ => ?_))
theorem clerestoryref1_AttrOf.mono : ∀ a0 a1 k, LeO (clerestoryref1_AttrOf.f k a0 a1) (clerestoryref1_AttrOf.f (k + 1) a0 a1) := by
 intro a0 a1 k
 have ih0 := clerestoryref1_AttrOf.mono_l k
 unfold clerestoryref1_AttrOf.f
 repeat' first | with_reducible first | apply ih0 | exact LeO.refl _ | exact LeO.none _ | refine LeO.ite ?_ ?_ | refine LeO.bind ?_ (fun _ => ?_) | (first | apply ih0 | exact LeO.none _ | refine LeO.ite ?_ ?_ | refine LeO.bind ?_ (fun _ => ?_))
set_option maxHeartbeats 8000000 in
set_option maxRecDepth 100000 in
theorem clerestoryref1_AttrOf.calls (k : Nat) (A0 : Option Addr) (c0 : Nat) (l0 : List (S122)) (a1 : ByteArray) (r1 : ByteArray) (r2 : Bool) (w : World) (hr0 : Kd.C k122 w A0 l0.length l0) (hc0 : l0.length ≤ c0) (h : clerestoryref1_AttrOf.f k l0 a1 = some (r1, r2)) :
 Calls Tryd.prog 64 #[.slice A0 l0.length c0, .string a1] w fun e w' => e = .returned (.tuple #[.string r1, .bool r2]) ∧ Drawn0 w w' := by
 have HR0 := aS hr0
 have HC0 := aS hc0
 clear hr0 hc0
 have H := h; clear h; unfold clerestoryref1_AttrOf.f at H
 have H' := aS H
 clear H
 go_enter Tryd.func64, Tryd.ntmps64
 go_wp2
 go_loopg [6] k (fun kq v6 w' => ∃ (x6_1 : Int), v6 = .int .i64 x6_1 ∧ Aside0 (clerestoryref1_AttrOf.l0 kq l0 a1 x6_1 = some (r1, r2)) ∧ Aside0 (kq ≤ k) ∧ Drawn0 w w')
 case atStart => exact ⟨(0), zi, H', ⟨Nat.le_refl _⟩, by repeat (first | exact Drawn0.refl _ | apply Drawn0.step)⟩
 case round =>
  clear H'
  obtain ⟨x6_1, rfl, HA, HK1, ⟨m1, rfl⟩⟩ := hrel
  cases gk with
  | zero => exact absurd HA.out (by simp [clerestoryref1_AttrOf.l0])
  | succ k1 =>
   have H := HA.out
   clear HA
   simp only [clerestoryref1_AttrOf.l0] at H
   refine iT H ?p3 ?n3 <;> clear H
   case' p3 =>
    intro c3b0 H
    refine iLp H ?_; clear H; intro c4b0 H
    obtain ⟨ad111, e111, hx111_0, hx111_1, p111, q111⟩ := at_T122A HR0.out x6_1 zb zb
    cases e111
    refine iE H ?p5 ?n5 <;> clear H
   case' p5 => intro c5b0 c5b1 H
   case' n5 => intro c5 c5b0 c5b1 H
   case' n3 => intro c3b0 H
   case p5 =>
    simp only [Option.some.injEq, Prod.mk.injEq] at H
    obtain ⟨rfl, rfl⟩ := H
    obtain ⟨ad112, e112, hx112_0, hx112_1, p112, q112⟩ := at_T122A HR0.out x6_1 zb zb
    obtain rfl : ad111 = ad112 := (by injection e112)
    go_wp2
    go_ret2
    exact ⟨by first | rfl | (simp; done) | (simp [*]; done), by repeat (first | exact Drawn0.refl _ | apply Drawn0.step)⟩
   case n5 =>
    have H' := aS H
    clear H
    go_wp2
    go_roundg k1
    case measure => have := HK1.out; omega
    case rel => exact ⟨(wrap64 (x6_1 + 1)), zi, H', ⟨by have := HK1.out; omega⟩, by repeat (first | exact Drawn0.refl _ | apply Drawn0.step)⟩
   case n3 =>
    simp only [Option.some.injEq, Prod.mk.injEq] at H
    obtain ⟨rfl, rfl⟩ := H
    go_wp2
    go_ret2
    exact ⟨by first | rfl | (simp; done) | (simp [*]; done), by repeat (first | exact Drawn0.refl _ | apply Drawn0.step)⟩
def clerestoryref1_between.f (a0 : Int) (a1 : Int) (a2 : Int) : Option (Bool) := if a0 ≥ a1 then (some (decide (a0 ≤ a2))) else (some false)
set_option maxHeartbeats 8000000 in
set_option maxRecDepth 100000 in
theorem clerestoryref1_between.calls (a0 : Int) (a1 : Int) (a2 : Int) (r : Bool) (w : World) (h : clerestoryref1_between.f a0 a1 a2 = some r) :
 Calls Tryd.prog 73 #[.int .i64 a0, .int .i64 a1, .int .i64 a2] w fun e w' => e = .returned (.bool r) ∧ Drawn0 w w' := by
 have H := h; clear h; unfold clerestoryref1_between.f at H
 refine iL H ?p4 ?n4 <;> clear H
 case' p4 => intro c4b0 H
 case' n4 => intro c4b0 H
 case p4|n4 =>
  obtain rfl := Option.some.inj H
  go_enter Tryd.func73, Tryd.ntmps73
  go_wp2
  go_ret
  exact ⟨by first | rfl | (simp; done) | (simp [*]; done), by repeat (first | exact Drawn0.refl _ | apply Drawn0.step)⟩
end Go.Proofs.YthjnallbbhnndaaDoor.XDe
namespace Go.Proofs.YthjnallbbhnndaaDoor.XDe
open Go.Proofs.YthjnallbbhnndaaDoor.Short Go.RowKit Go.Proofs.YthjnallbbhnndaaDoorW.PrintWords Go.Proofs.YthjnallbbhnndaaDoorW.PrintLast Go.Proofs.YthjnallbbhnndaaDoorW.PrintMore
attribute [local go_sem] q16 q14 q1g q1f q0s q0r q15 q13   -- for this text's walks alone
set_option linter.unusedVariables false
set_option linter.unusedSimpArgs false
mutual
def clerestoryref1_domName.j0 : Nat → ByteArray → Bool → Bool → Option (Bool)
 | 0, _, _, _ => none
 | k + 1, x0, x1, x15 => if x15 = true then (some false) else (clerestoryref1_domName.l0 k x0 x1 0)
def clerestoryref1_domName.l0 : Nat → ByteArray → Bool → Int → Option (Bool)
 | 0, _, _, _ => none
 | k + 1, x0, x1, x5 => if x5 < (x0.size : Int) then (if 0 ≤ x5 then (if (bt x0 x5) ≥ 97 then (clerestoryref1_domName.j2 k x0 x1 x5 (bt x0 x5) (decide ((bt x0 x5) ≤ 122))) else (clerestoryref1_domName.j2 k x0 x1 x5 (bt x0 x5) false)) else (none)) else (some true)
def clerestoryref1_domName.j2 : Nat → ByteArray → Bool → Int → Int → Bool → Option (Bool)
 | 0, _, _, _, _, _ => none
 | k + 1, x0, x1, x5, x6, x7 => if x7 = true then (clerestoryref1_domName.j3 k x0 x1 x5 x6 x7 false) else (if x6 ≥ 48 then (if x6 ≤ 57 then (clerestoryref1_domName.j3 k x0 x1 x5 x6 x7 false) else (if x6 = 45 then (clerestoryref1_domName.j3 k x0 x1 x5 x6 x7 false) else (if x6 = 95 then (clerestoryref1_domName.j3 k x0 x1 x5 x6 x7 false) else (clerestoryref1_domName.j3 k x0 x1 x5 x6 x7 (x6 != 58))))) else (if x6 = 45 then (clerestoryref1_domName.j3 k x0 x1 x5 x6 x7 false) else (if x6 = 95 then (clerestoryref1_domName.j3 k x0 x1 x5 x6 x7 false) else (clerestoryref1_domName.j3 k x0 x1 x5 x6 x7 (x6 != 58)))))
def clerestoryref1_domName.j3 : Nat → ByteArray → Bool → Int → Int → Bool → Bool → Option (Bool)
 | 0, _, _, _, _, _, _ => none
 | k + 1, x0, x1, x5, x6, x7, x53 => if x53 = true then (some false) else (if x5 = 0 then (if x7 = true then (clerestoryref1_domName.l0 k x0 x1 (wrap64 (x5 + 1))) else (if x1 = true then (some false) else (if x6 = 45 then (clerestoryref1_domName.l0 k x0 x1 (wrap64 (x5 + 1))) else (if x6 = 95 then (clerestoryref1_domName.l0 k x0 x1 (wrap64 (x5 + 1))) else (some false))))) else (clerestoryref1_domName.l0 k x0 x1 (wrap64 (x5 + 1))))
end
def clerestoryref1_domName.f (k : Nat) (a0 : ByteArray) (a1 : Bool) : Option (Bool) := if (a0.size : Int) < 1 then (clerestoryref1_domName.j0 k a0 a1 true) else (clerestoryref1_domName.j0 k a0 a1 (decide ((a0.size : Int) > 40)))
theorem clerestoryref1_domName.mono_l : ∀ k, (∀ y0 y1 y2, LeO (clerestoryref1_domName.j0 k y0 y1 y2) (clerestoryref1_domName.j0 (k + 1) y0 y1 y2)) ∧ (∀ y0 y1 y2, LeO (clerestoryref1_domName.l0 k y0 y1 y2) (clerestoryref1_domName.l0 (k + 1) y0 y1 y2)) ∧ (∀ y0 y1 y2 y3 y4, LeO (clerestoryref1_domName.j2 k y0 y1 y2 y3 y4) (clerestoryref1_domName.j2 (k + 1) y0 y1 y2 y3 y4)) ∧ (∀ y0 y1 y2 y3 y4 y5, LeO (clerestoryref1_domName.j3 k y0 y1 y2 y3 y4 y5) (clerestoryref1_domName.j3 (k + 1) y0 y1 y2 y3 y4 y5))
 | 0 => ⟨fun _ _ _ r h => by simp [clerestoryref1_domName.j0] at h, fun _ _ _ r h => by simp [clerestoryref1_domName.l0] at h, fun _ _ _ _ _ r h => by simp [clerestoryref1_domName.j2] at h, fun _ _ _ _ _ _ r h => by simp [clerestoryref1_domName.j3] at h⟩
 | k + 1 => by
  obtain ⟨ih0, ih1, ih2, ih3⟩ := clerestoryref1_domName.mono_l k
  refine ⟨?_, ?_, ?_, ?_⟩
  all_goals intros
  all_goals (first | unfold clerestoryref1_domName.j0 | unfold clerestoryref1_domName.l0 | unfold clerestoryref1_domName.j2 | unfold clerestoryref1_domName.j3)
  all_goals (repeat' first | with_reducible first | apply ih0 | apply ih1 | apply ih2 | apply ih3 | exact LeO.refl _ | exact LeO.none _ | refine LeO.ite ?_ ?_ | refine LeO.bind ?_ (fun _ => ?_) | (first | apply ih0 | apply ih1 | apply ih2 | apply ih3 | exact LeO.none _ | refine LeO.ite ?_ ?_ | refine LeO.bind ?_ (fun _ => ?_)))
theorem clerestoryref1_domName.mono : ∀ a0 a1 k, LeO (clerestoryref1_domName.f k a0 a1) (clerestoryref1_domName.f (k + 1) a0 a1) := by
 intro a0 a1 k
 obtain ⟨ih0, ih1, ih2, ih3⟩ := clerestoryref1_domName.mono_l k
 unfold clerestoryref1_domName.f
 repeat' first | with_reducible first | apply ih0 | apply ih1 | apply ih2 | apply ih3 | exact LeO.refl _ | exact LeO.none _ | refine LeO.ite ?_ ?_ | refine LeO.bind ?_ (fun _ => ?_) | (first | apply ih0 | apply ih1 | apply ih2 | apply ih3 | exact LeO.none _ | refine LeO.ite ?_ ?_ | refine LeO.bind ?_ (fun _ => ?_))
set_option maxHeartbeats 8000000 in
set_option maxRecDepth 100000 in
theorem clerestoryref1_domName.calls (k : Nat) (a0 : ByteArray) (a1 : Bool) (r : Bool) (w : World) (h : clerestoryref1_domName.f k a0 a1 = some r) :
 Calls Tryd.prog 120 #[.string a0, .bool a1] w fun e w' => e = .returned (.bool r) ∧ Drawn0 w w' := by
 have H := h; clear h; unfold clerestoryref1_domName.f at H
 have HC3 := aS H
 clear H
 go_enter Tryd.func120, Tryd.ntmps120
 go_upto_region 1 with (fail)
 go_cut [15] (fun v15 wc => ∃ (kq : Nat) (x15_2 : Bool), v15 = .bool x15_2 ∧ Aside0 (clerestoryref1_domName.j0 kq a0 a1 x15_2 = some r) ∧ Aside0 (kq ≤ k) ∧ Drawn0 w wc)
 case first =>
  have H := HC3.out
  clear HC3
  refine iTN (m := a0.size) (n := 1) H rfl rfl ?p4 ?n4 <;> clear H
  case' p4 => intro c4b0 c4b1 H
  case' n4 => intro c4b0 c4b1 H
  case p4 =>
   (first | rw [c4b0] | (simp only [q0d, q0e]; rw [c4b0]) | skip)
   have H' := aS H
   clear H
   go_wp2
   go_meet
   case rel => exact ⟨_, _, zi, H', ⟨by first | omega | exact Nat.le_refl _⟩, by repeat (first | exact Drawn0.refl _ | apply Drawn0.step)⟩
  case n4 =>
   (first | rw [c4b0] | (simp only [q0d, q0e]; rw [c4b0]) | skip)
   have H' := aS H
   clear H
   go_wp2
   go_meet
   case rel => exact ⟨_, (decide ((a0.size : Int) > 40)), zi, H', ⟨by first | omega | exact Nat.le_refl _⟩, by repeat (first | exact Drawn0.refl _ | apply Drawn0.step)⟩
 case rest =>
  clear HC3
  obtain ⟨kq, x15_2, rfl, HA, HJ2, ⟨mc2, rfl⟩⟩ := hcut
  cases kq with
  | zero => exact absurd HA.out (by simp [clerestoryref1_domName.j0])
  | succ kj2 =>
   have H := HA.out
   clear HA
   simp only [clerestoryref1_domName.j0] at H
   refine iV H ?p5 ?n5 <;> clear H
   case' p5 => intro c5 H; subst c5
   case' n5 => intro c5 H; subst c5
   case p5 =>
    obtain rfl := Option.some.inj H
    go_wp2
    go_ret
    exact ⟨by first | rfl | (simp; done) | (simp [*]; done), by repeat (first | exact Drawn0.refl _ | apply Drawn0.step)⟩
   case n5 =>
    have H' := aS H
    clear H
    go_wp2
    go_loopg [5] kj2 (fun kq v5 w' => ∃ (x5_2 : Int), v5 = .int .i64 x5_2 ∧ Aside0 (clerestoryref1_domName.l0 kq a0 a1 x5_2 = some r) ∧ Aside0 (kq ≤ kj2) ∧ Drawn0 w w')
    case atStart => exact ⟨(0), zi, H', ⟨Nat.le_refl _⟩, by repeat (first | exact Drawn0.refl _ | apply Drawn0.step)⟩
    case round =>
     clear H'
     obtain ⟨x5_2, rfl, HA, HK2, ⟨m2, rfl⟩⟩ := hrel
     cases gk with
     | zero => exact absurd HA.out (by simp [clerestoryref1_domName.l0])
     | succ k2 =>
      have H := HA.out
      clear HA
      simp only [clerestoryref1_domName.l0] at H
      refine iT H ?p6 ?n6 <;> clear H
      case' p6 => intro c6b0 H; refine iLp H ?_; clear H; intro c7b0 H
      case' n6 => intro c6b0 H
      case p6 =>
       have HC9 := aS H
       clear H
       have p8 : 0 ≤ (x5_2 : Int) := od zb
       have q8 : x5_2 < (a0.size : Int) := od zb
       have hx8 := bt_at a0 x5_2
       replace p8 := eq_true p8
       replace q8 := eq_true q8
       go_upto_region 7 with (fail)
       go_cut [7] (fun v7 wc => ∃ (kq : Nat) (x7_8 : Bool), v7 = .bool x7_8 ∧ Aside0 (clerestoryref1_domName.j2 kq a0 a1 x5_2 (bt a0 x5_2) x7_8 = some r) ∧ Aside0 (kq ≤ k2) ∧ Drawn0 w wc)
       case first =>
        have H := HC9.out
        clear HC9
        refine iL H ?p10 ?n10 <;> clear H
        case' p10 => intro c10b0 H
        case' n10 => intro c10b0 H
        case p10 =>
         (first | rw [c10b0] | (simp only [q0d, q0e]; rw [c10b0]) | skip)
         have H' := aS H
         clear H
         go_wp2
         go_meet
         case rel => exact ⟨_, (decide ((bt a0 x5_2) ≤ 122)), zi, H', ⟨by have := HJ2.out; have := HK2.out; first | omega | exact Nat.le_refl _⟩, by repeat (first | exact Drawn0.refl _ | apply Drawn0.step)⟩
        case n10 =>
         (first | rw [c10b0] | (simp only [q0d, q0e]; rw [c10b0]) | skip)
         have H' := aS H
         clear H
         go_wp2
         go_meet
         case rel => exact ⟨_, _, zi, H', ⟨by have := HJ2.out; have := HK2.out; first | omega | exact Nat.le_refl _⟩, by repeat (first | exact Drawn0.refl _ | apply Drawn0.step)⟩
       case rest =>
        clear HC9
        obtain ⟨kq, x7_8, rfl, HA, HJ8, ⟨mc8, rfl⟩⟩ := hcut
        cases kq with
        | zero => exact absurd HA.out (by simp [clerestoryref1_domName.j2])
        | succ kj8 =>
         have H := HA.out
         clear HA
         simp only [clerestoryref1_domName.j2] at H
         have HC11 := aS H
         clear H
         go_upto_region 8 with (fail)
         go_cut [53] (fun v53 wc => ∃ (kq : Nat) (x53_10 : Bool), v53 = .bool x53_10 ∧ Aside0 (clerestoryref1_domName.j3 kq a0 a1 x5_2 (bt a0 x5_2) x7_8 x53_10 = some r) ∧ Aside0 (kq ≤ kj8) ∧ Drawn0 w wc)
         case first =>
          have H := HC11.out
          clear HC11
          refine iV H ?p12 ?n12 <;> clear H
          case' p12 => intro c12 H; subst c12
          case' n12 => intro c12 H; subst c12; refine iL H ?p13 ?n13 <;> clear H
          case' p13 => intro c13b0 H; (first | rw [c13b0] | (simp only [q0d, q0e]; rw [c13b0]) | skip); refine iL H ?p14 ?n14 <;> clear H
          case' p14 => intro c14b0 H
          case' n14 => intro c14b0 H; refine iE H ?p15 ?n15 <;> clear H
          case' p15 => intro c15b0 c15b1 H
          case' n15 => intro c15 c15b0 c15b1 H; refine iE H ?p16 ?n16 <;> clear H
          case' p16 => intro c16b0 c16b1 H
          case' n16 => intro c16 c16b0 c16b1 H
          case' n13 => intro c13b0 H; (first | rw [c13b0] | (simp only [q0d, q0e]; rw [c13b0]) | skip); refine iE H ?p17 ?n17 <;> clear H
          case' p17 => intro c17b0 c17b1 H
          case' n17 => intro c17 c17b0 c17b1 H; refine iE H ?p18 ?n18 <;> clear H
          case' p18 => intro c18b0 c18b1 H
          case' n18 => intro c18 c18b0 c18b1 H
          case p12|p14|p15|p16|p17|p18 =>
           have H' := aS H
           clear H
           go_wp2
           go_meet
           case rel => exact ⟨_, _, zi, H', ⟨by have := HJ2.out; have := HK2.out; have := HJ8.out; first | omega | exact Nat.le_refl _⟩, by repeat (first | exact Drawn0.refl _ | apply Drawn0.step)⟩
          case n16|n18 =>
           have H' := aS H
           clear H
           go_wp2
           go_meet
           case rel => exact ⟨_, (((bt a0 x5_2) != 58)), zi, H', ⟨by have := HJ2.out; have := HK2.out; have := HJ8.out; first | omega | exact Nat.le_refl _⟩, by repeat (first | exact Drawn0.refl _ | apply Drawn0.step)⟩
         case rest =>
          clear HC11
          obtain ⟨kq, x53_10, rfl, HA, HJ10, ⟨mc10, rfl⟩⟩ := hcut
          cases kq with
          | zero => exact absurd HA.out (by simp [clerestoryref1_domName.j3])
          | succ kj10 =>
           have H := HA.out
           clear HA
           simp only [clerestoryref1_domName.j3] at H
           refine iV H ?p19 ?n19 <;> clear H
           case' p19 => intro c19 H; subst c19
           case' n19 => intro c19 H; subst c19; refine iE H ?p20 ?n20 <;> clear H
           case' p20 => intro c20b0 c20b1 H; refine iV H ?p21 ?n21 <;> clear H
           case' p21 => intro c21 H; subst c21
           case' n21 => intro c21 H; subst c21; refine iV H ?p22 ?n22 <;> clear H
           case' p22 => intro c22 H; subst c22
           case' n22 => intro c22 H; subst c22; refine iE H ?p23 ?n23 <;> clear H
           case' p23 => intro c23b0 c23b1 H
           case' n23 => intro c23 c23b0 c23b1 H; refine iE H ?p24 ?n24 <;> clear H
           case' p24 => intro c24b0 c24b1 H
           case' n24 => intro c24 c24b0 c24b1 H
           case' n20 => intro c20 c20b0 c20b1 H
           case p19|p22|n24 =>
            obtain rfl := Option.some.inj H
            go_wp2
            go_ret
            exact ⟨by first | rfl | (simp; done) | (simp [*]; done), by repeat (first | exact Drawn0.refl _ | apply Drawn0.step)⟩
           case p21|p23|p24|n20 =>
            have H' := aS H
            clear H
            go_wp2
            go_roundg kj10
            case measure => have := HJ2.out; have := HK2.out; have := HJ8.out; have := HJ10.out; omega
            case rel => exact ⟨(wrap64 (x5_2 + 1)), zi, H', ⟨by have := HJ2.out; have := HK2.out; have := HJ8.out; have := HJ10.out; omega⟩, by repeat (first | exact Drawn0.refl _ | apply Drawn0.step)⟩
      case n6 =>
       obtain rfl := Option.some.inj H
       go_wp2
       go_ret
       exact ⟨by first | rfl | (simp; done) | (simp [*]; done), by repeat (first | exact Drawn0.refl _ | apply Drawn0.step)⟩
end Go.Proofs.YthjnallbbhnndaaDoor.XDe
namespace Go.Proofs.YthjnallbbhnndaaDoor.XDe
open Go.Proofs.YthjnallbbhnndaaDoor.Short Go.RowKit Go.Proofs.YthjnallbbhnndaaDoorW.PrintWords Go.Proofs.YthjnallbbhnndaaDoorW.PrintLast Go.Proofs.YthjnallbbhnndaaDoorW.PrintMore
attribute [local go_sem] q16 q14 q1g q1f q0s q0r q15 q13   -- for this text's walks alone
set_option linter.unusedVariables false
set_option linter.unusedSimpArgs false
mutual
def clerestoryref1_NodeErr.j0 : Nat → Bool → Int → ByteArray → List (S122) → ByteArray → Int → List Int → Option (Int)
 | 0, _, _, _, _, _, _, _ => none
 | k + 1, x59, x114000, x114001, x114002, x114003, x114004, x114005 => if x59 = true then (some 7) else (if x114000 = 2 then ((clerestoryref1_domName.f k x114001 true).bind fun t115 => (clerestoryref1_NodeErr.j1 k (!t115) x114000 x114001 x114002 x114003 x114004 x114005)) else (clerestoryref1_NodeErr.j1 k false x114000 x114001 x114002 x114003 x114004 x114005))
def clerestoryref1_NodeErr.j1 : Nat → Bool → Int → ByteArray → List (S122) → ByteArray → Int → List Int → Option (Int)
 | 0, _, _, _, _, _, _, _ => none
 | k + 1, x68, x114000, x114001, x114002, x114003, x114004, x114005 => if x68 = true then (some 3) else (if (x114002.length : Int) > 12 then (some 2) else (clerestoryref1_NodeErr.l0 k 0 x114000 x114001 x114002 x114003 x114004 x114005))
def clerestoryref1_NodeErr.l0 : Nat → Int → Int → ByteArray → List (S122) → ByteArray → Int → List Int → Option (Int)
 | 0, _, _, _, _, _, _, _ => none
 | k + 1, x3, x114000, x114001, x114002, x114003, x114004, x114005 => if x3 < (x114002.length : Int) then (if 0 ≤ x3 then ((clerestoryref1_domName.f k ((q03 x114002 x3).f0) false).bind fun t117 => (if t117 = true then (if (((q03 x114002 x3).f1).size : Int) > 400 then (some 2) else (if x3 ≤ (x114002.length : Int) then ((clerestoryref1_AttrOf.f k (x114002.take (x3 : Int).toNat) ((q03 x114002 x3).f0)).bind fun bt124 => (if bt124.2 = true then (some 3) else (clerestoryref1_NodeErr.l0 k (wrap64 (x3 + 1)) x114000 x114001 x114002 x114003 x114004 x114005))) else (none))) else (some 3))) else (none)) else (if (x114003.size : Int) > 400 then (some 2) else (if (x114001.size : Int) > 400 then (some 2) else (some 0)))
end
def clerestoryref1_NodeErr.f (k : Nat) (a0_0 : Int) (a0_1 : ByteArray) (l0_2 : List (S122)) (a0_3 : ByteArray) (a0_4 : Int) (l0_5 : List Int) : Option (Int) := (clerestoryref1_between.f a0_0 1 5).bind fun t114 => (if t114 = true then (if a0_1.toList = ([] : List UInt8) then (if (l0_2.length : Int) > 0 then (if a0_0 = 2 then (if a0_3.toList = ([] : List UInt8) then (if (l0_5.length : Int) > 0 then (clerestoryref1_NodeErr.j0 k (decide (a0_0 > 2)) a0_0 a0_1 l0_2 a0_3 a0_4 l0_5) else (clerestoryref1_NodeErr.j0 k false a0_0 a0_1 l0_2 a0_3 a0_4 l0_5)) else (if a0_0 = 3 then (if (l0_5.length : Int) > 0 then (clerestoryref1_NodeErr.j0 k (decide (a0_0 > 2)) a0_0 a0_1 l0_2 a0_3 a0_4 l0_5) else (clerestoryref1_NodeErr.j0 k false a0_0 a0_1 l0_2 a0_3 a0_4 l0_5)) else (if a0_0 = 4 then (if (l0_5.length : Int) > 0 then (clerestoryref1_NodeErr.j0 k (decide (a0_0 > 2)) a0_0 a0_1 l0_2 a0_3 a0_4 l0_5) else (clerestoryref1_NodeErr.j0 k false a0_0 a0_1 l0_2 a0_3 a0_4 l0_5)) else (clerestoryref1_NodeErr.j0 k true a0_0 a0_1 l0_2 a0_3 a0_4 l0_5)))) else (clerestoryref1_NodeErr.j0 k true a0_0 a0_1 l0_2 a0_3 a0_4 l0_5)) else (if a0_3.toList = ([] : List UInt8) then (if (l0_5.length : Int) > 0 then (clerestoryref1_NodeErr.j0 k (decide (a0_0 > 2)) a0_0 a0_1 l0_2 a0_3 a0_4 l0_5) else (clerestoryref1_NodeErr.j0 k false a0_0 a0_1 l0_2 a0_3 a0_4 l0_5)) else (if a0_0 = 3 then (if (l0_5.length : Int) > 0 then (clerestoryref1_NodeErr.j0 k (decide (a0_0 > 2)) a0_0 a0_1 l0_2 a0_3 a0_4 l0_5) else (clerestoryref1_NodeErr.j0 k false a0_0 a0_1 l0_2 a0_3 a0_4 l0_5)) else (if a0_0 = 4 then (if (l0_5.length : Int) > 0 then (clerestoryref1_NodeErr.j0 k (decide (a0_0 > 2)) a0_0 a0_1 l0_2 a0_3 a0_4 l0_5) else (clerestoryref1_NodeErr.j0 k false a0_0 a0_1 l0_2 a0_3 a0_4 l0_5)) else (clerestoryref1_NodeErr.j0 k true a0_0 a0_1 l0_2 a0_3 a0_4 l0_5))))) else (if a0_0 = 2 then (if (l0_2.length : Int) > 0 then (if a0_3.toList = ([] : List UInt8) then (if (l0_5.length : Int) > 0 then (clerestoryref1_NodeErr.j0 k (decide (a0_0 > 2)) a0_0 a0_1 l0_2 a0_3 a0_4 l0_5) else (clerestoryref1_NodeErr.j0 k false a0_0 a0_1 l0_2 a0_3 a0_4 l0_5)) else (if a0_0 = 3 then (if (l0_5.length : Int) > 0 then (clerestoryref1_NodeErr.j0 k (decide (a0_0 > 2)) a0_0 a0_1 l0_2 a0_3 a0_4 l0_5) else (clerestoryref1_NodeErr.j0 k false a0_0 a0_1 l0_2 a0_3 a0_4 l0_5)) else (if a0_0 = 4 then (if (l0_5.length : Int) > 0 then (clerestoryref1_NodeErr.j0 k (decide (a0_0 > 2)) a0_0 a0_1 l0_2 a0_3 a0_4 l0_5) else (clerestoryref1_NodeErr.j0 k false a0_0 a0_1 l0_2 a0_3 a0_4 l0_5)) else (clerestoryref1_NodeErr.j0 k true a0_0 a0_1 l0_2 a0_3 a0_4 l0_5)))) else (if a0_3.toList = ([] : List UInt8) then (if (l0_5.length : Int) > 0 then (clerestoryref1_NodeErr.j0 k (decide (a0_0 > 2)) a0_0 a0_1 l0_2 a0_3 a0_4 l0_5) else (clerestoryref1_NodeErr.j0 k false a0_0 a0_1 l0_2 a0_3 a0_4 l0_5)) else (if a0_0 = 3 then (if (l0_5.length : Int) > 0 then (clerestoryref1_NodeErr.j0 k (decide (a0_0 > 2)) a0_0 a0_1 l0_2 a0_3 a0_4 l0_5) else (clerestoryref1_NodeErr.j0 k false a0_0 a0_1 l0_2 a0_3 a0_4 l0_5)) else (if a0_0 = 4 then (if (l0_5.length : Int) > 0 then (clerestoryref1_NodeErr.j0 k (decide (a0_0 > 2)) a0_0 a0_1 l0_2 a0_3 a0_4 l0_5) else (clerestoryref1_NodeErr.j0 k false a0_0 a0_1 l0_2 a0_3 a0_4 l0_5)) else (clerestoryref1_NodeErr.j0 k true a0_0 a0_1 l0_2 a0_3 a0_4 l0_5))))) else (if a0_0 = 5 then (if (l0_2.length : Int) > 0 then (clerestoryref1_NodeErr.j0 k true a0_0 a0_1 l0_2 a0_3 a0_4 l0_5) else (if a0_3.toList = ([] : List UInt8) then (if (l0_5.length : Int) > 0 then (clerestoryref1_NodeErr.j0 k (decide (a0_0 > 2)) a0_0 a0_1 l0_2 a0_3 a0_4 l0_5) else (clerestoryref1_NodeErr.j0 k false a0_0 a0_1 l0_2 a0_3 a0_4 l0_5)) else (if a0_0 = 3 then (if (l0_5.length : Int) > 0 then (clerestoryref1_NodeErr.j0 k (decide (a0_0 > 2)) a0_0 a0_1 l0_2 a0_3 a0_4 l0_5) else (clerestoryref1_NodeErr.j0 k false a0_0 a0_1 l0_2 a0_3 a0_4 l0_5)) else (if a0_0 = 4 then (if (l0_5.length : Int) > 0 then (clerestoryref1_NodeErr.j0 k (decide (a0_0 > 2)) a0_0 a0_1 l0_2 a0_3 a0_4 l0_5) else (clerestoryref1_NodeErr.j0 k false a0_0 a0_1 l0_2 a0_3 a0_4 l0_5)) else (clerestoryref1_NodeErr.j0 k true a0_0 a0_1 l0_2 a0_3 a0_4 l0_5))))) else (clerestoryref1_NodeErr.j0 k true a0_0 a0_1 l0_2 a0_3 a0_4 l0_5)))) else (some 7))
theorem clerestoryref1_NodeErr.mono_l : ∀ k, (∀ y0 y1 y2 y3 y4 y5 y6, LeO (clerestoryref1_NodeErr.j0 k y0 y1 y2 y3 y4 y5 y6) (clerestoryref1_NodeErr.j0 (k + 1) y0 y1 y2 y3 y4 y5 y6)) ∧ (∀ y0 y1 y2 y3 y4 y5 y6, LeO (clerestoryref1_NodeErr.j1 k y0 y1 y2 y3 y4 y5 y6) (clerestoryref1_NodeErr.j1 (k + 1) y0 y1 y2 y3 y4 y5 y6)) ∧ (∀ y0 y1 y2 y3 y4 y5 y6, LeO (clerestoryref1_NodeErr.l0 k y0 y1 y2 y3 y4 y5 y6) (clerestoryref1_NodeErr.l0 (k + 1) y0 y1 y2 y3 y4 y5 y6))
 | 0 => ⟨fun _ _ _ _ _ _ _ r h => by simp [clerestoryref1_NodeErr.j0] at h, fun _ _ _ _ _ _ _ r h => by simp [clerestoryref1_NodeErr.j1] at h, fun _ _ _ _ _ _ _ r h => by simp [clerestoryref1_NodeErr.l0] at h⟩
 | k + 1 => by
  obtain ⟨ih0, ih1, ih2⟩ := clerestoryref1_NodeErr.mono_l k
  refine ⟨?_, ?_, ?_⟩
  all_goals intros
  all_goals (first | unfold clerestoryref1_NodeErr.j0 | unfold clerestoryref1_NodeErr.j1 | unfold clerestoryref1_NodeErr.l0)
  all_goals (repeat' first | with_reducible first | apply ih0 | apply ih1 | apply ih2 | apply clerestoryref1_AttrOf.mono | apply clerestoryref1_domName.mono | exact LeO.refl _ | exact LeO.none _ | refine LeO.ite ?_ ?_ | refine LeO.bind ?_ (fun _ => ?_) | (first | apply ih0 | apply ih1 | apply ih2 | apply clerestoryref1_AttrOf.mono | apply clerestoryref1_domName.mono | exact LeO.none _ | refine LeO.ite ?_ ?_ | refine LeO.bind ?_ (fun _ => ?_)))
theorem clerestoryref1_NodeErr.mono : ∀ a0 a1 a2 a3 a4 a5 k, LeO (clerestoryref1_NodeErr.f k a0 a1 a2 a3 a4 a5) (clerestoryref1_NodeErr.f (k + 1) a0 a1 a2 a3 a4 a5) := by
 intro a0 a1 a2 a3 a4 a5 k
 obtain ⟨ih0, ih1, ih2⟩ := clerestoryref1_NodeErr.mono_l k
 unfold clerestoryref1_NodeErr.f
 repeat' first | with_reducible first | apply ih0 | apply ih1 | apply ih2 | apply clerestoryref1_AttrOf.mono | apply clerestoryref1_domName.mono | exact LeO.refl _ | exact LeO.none _ | refine LeO.ite ?_ ?_ | refine LeO.bind ?_ (fun _ => ?_) | (first | apply ih0 | apply ih1 | apply ih2 | apply clerestoryref1_AttrOf.mono | apply clerestoryref1_domName.mono | exact LeO.none _ | refine LeO.ite ?_ ?_ | refine LeO.bind ?_ (fun _ => ?_))
set_option maxHeartbeats 8000000 in
set_option maxRecDepth 100000 in
theorem clerestoryref1_NodeErr.calls (k : Nat) (a0_0 : Int) (a0_1 : ByteArray) (A0_2 : Option Addr) (c0_2 : Nat) (l0_2 : List (S122)) (a0_3 : ByteArray) (a0_4 : Int) (A0_5 : Option Addr) (c0_5 : Nat) (l0_5 : List Int) (r : Int) (w : World) (hr0_2 : Kd.C k122 w A0_2 l0_2.length l0_2) (hc0_2 : l0_2.length ≤ c0_2) (hr0_5 : Kd.C (Kd.int .i64) w A0_5 l0_5.length l0_5) (hc0_5 : l0_5.length ≤ c0_5) (h : clerestoryref1_NodeErr.f k a0_0 a0_1 l0_2 a0_3 a0_4 l0_5 = some r) :
 Calls Tryd.prog 72 #[.agg #[.int .i64 a0_0, .string a0_1, .slice A0_2 l0_2.length c0_2, .string a0_3, .int .i64 a0_4, .slice A0_5 l0_5.length c0_5]] w fun e w' => e = .returned (.int .i64 r) ∧ Below w.heap.size w w' := by
 have hu43 := Tryd.underlying43
 have HR0_2 := aS hr0_2
 have HC0_2 := aS hc0_2
 clear hr0_2 hc0_2
 have HR0_5 := aS hr0_5
 have HC0_5 := aS hc0_5
 clear hr0_5 hc0_5
 have HB := aS (Below.refl w.heap.size w)
 have H := h; clear h; unfold clerestoryref1_NodeErr.f at H
 replace H := iB H
 obtain ⟨t114, A2, H⟩ := H
 refine iV H ?p3 ?n3 <;> clear H
 case' p3 => intro c3 H; subst c3
 case' n3 => intro c3 H; subst c3
 case p3 =>
  have HC4 := aS H
  clear H
  go_enter Tryd.func72, Tryd.ntmps72
  go_upto_region 3 with (first | ((with_reducible refine q07 (N := 1) rfl ?_); (try (refine q12 (by rfl) ?_; dsimp only)); refine box0 rfl (N := 1) rfl (cs := #[.int .i64 a0_0, .string a0_1, .slice A0_2 l0_2.length c0_2, .string a0_3, .int .i64 a0_4, .slice A0_5 l0_5.length c0_5]) (t := 43) zh (z7 HB.out) ?_; clear HB; intro gb113 w5 BK113 GW113 HB; have GE113 := GW113; obtain ⟨hczL_0, hczL_1, hczL_2, hczL_3, hczL_4, hczL_5, hfzL_0, hfzL_1, hfzL_2, hfzL_3, hfzL_4, hfzL_5⟩ := bk6 BK113.out) | (go_at_call 73; (with_reducible refine (clerestoryref1_between.calls a0_0 1 5 true _ A2.out).mono ?_); rintro e w' ⟨rfl, ⟨nd, rfl⟩⟩; (try first | exact ⟨rfl, _, World.drewN_drewN _ _ _⟩ | exact ⟨rfl, _, Eq.trans (World.drewN_drewN _ _ _) (congrArg (World.drewN _) (Nat.add_assoc _ _ _))⟩)))
  repeat (go_quiet (first | ((with_reducible refine q07 (N := 1) rfl ?_); (try (refine q12 (by rfl) ?_; dsimp only)); refine box0 rfl (N := 1) rfl (cs := #[.int .i64 a0_0, .string a0_1, .slice A0_2 l0_2.length c0_2, .string a0_3, .int .i64 a0_4, .slice A0_5 l0_5.length c0_5]) (t := 43) zh (z7 HB.out) ?_; clear HB; intro gb113 w5 BK113 GW113 HB; have GE113 := GW113; obtain ⟨hczL_0, hczL_1, hczL_2, hczL_3, hczL_4, hczL_5, hfzL_0, hfzL_1, hfzL_2, hfzL_3, hfzL_4, hfzL_5⟩ := bk6 BK113.out) | (go_at_call 73; (with_reducible refine (clerestoryref1_between.calls a0_0 1 5 true _ A2.out).mono ?_); rintro e w' ⟨rfl, ⟨nd, rfl⟩⟩; (try first | exact ⟨rfl, _, World.drewN_drewN _ _ _⟩ | exact ⟨rfl, _, Eq.trans (World.drewN_drewN _ _ _) (congrArg (World.drewN _) (Nat.add_assoc _ _ _))⟩))); go_upto_region 3 with (first | ((with_reducible refine q07 (N := 1) rfl ?_); (try (refine q12 (by rfl) ?_; dsimp only)); refine box0 rfl (N := 1) rfl (cs := #[.int .i64 a0_0, .string a0_1, .slice A0_2 l0_2.length c0_2, .string a0_3, .int .i64 a0_4, .slice A0_5 l0_5.length c0_5]) (t := 43) zh (z7 HB.out) ?_; clear HB; intro gb113 w5 BK113 GW113 HB; have GE113 := GW113; obtain ⟨hczL_0, hczL_1, hczL_2, hczL_3, hczL_4, hczL_5, hfzL_0, hfzL_1, hfzL_2, hfzL_3, hfzL_4, hfzL_5⟩ := bk6 BK113.out) | (go_at_call 73; (with_reducible refine (clerestoryref1_between.calls a0_0 1 5 true _ A2.out).mono ?_); rintro e w' ⟨rfl, ⟨nd, rfl⟩⟩; (try first | exact ⟨rfl, _, World.drewN_drewN _ _ _⟩ | exact ⟨rfl, _, Eq.trans (World.drewN_drewN _ _ _) (congrArg (World.drewN _) (Nat.add_assoc _ _ _))⟩))))
  (try simp only [Act.put, s1, s2, s3])
  go_cut [59] (fun v59 wc => ∃ (kq : Nat) (x59_3 : Bool), v59 = .bool x59_3 ∧ Aside0 (clerestoryref1_NodeErr.j0 kq x59_3 a0_0 a0_1 l0_2 a0_3 a0_4 l0_5 = some r) ∧ Aside0 (kq ≤ k) ∧ Aside0 (wc.heap[gb113]? = some (.cells #[.int .i64 a0_0, .string a0_1, (.slice A0_2 l0_2.length c0_2), .string a0_3, .int .i64 a0_4, (.slice A0_5 l0_5.length c0_5)] 43 (0, 0))) ∧ Aside0 (Below w.heap.size w wc))
  case first =>
   have H := HC4.out
   clear HC4
   obtain ⟨hczL_0, hczL_1, hczL_2, hczL_3, hczL_4, hczL_5, hfzL_0, hfzL_1, hfzL_2, hfzL_3, hfzL_4, hfzL_5⟩ := bk6 BK113.out
   refine iE H ?p7 ?n7 <;> clear H
   case' p7 => intro c7b0 c7b1 H; (first | rw [c7b0] | (simp only [q0d, q0e]; rw [c7b0]) | skip); refine iTN (m := 0) (n := l0_2.length) H rfl rfl ?p8 ?n8 <;> clear H
   case' p8 => intro c8b0 c8b1 H; refine iE H ?p9 ?n9 <;> clear H
   case' p9 => intro c9b0 c9b1 H; refine iE H ?p10 ?n10 <;> clear H
   case' p10 => intro c10b0 c10b1 H; refine iTN (m := 0) (n := l0_5.length) H rfl rfl ?p11 ?n11 <;> clear H
   case' p11 => intro c11b0 c11b1 H
   case' n11 => intro c11b0 c11b1 H
   case' n10 => intro c10 c10b0 c10b1 H; refine iE H ?p14 ?n14 <;> clear H
   case' p14 => intro c14b0 c14b1 H; refine iTN (m := 0) (n := l0_5.length) H rfl rfl ?p15 ?n15 <;> clear H
   case' p15 => intro c15b0 c15b1 H
   case' n15 => intro c15b0 c15b1 H
   case' n14 => intro c14 c14b0 c14b1 H; refine iE H ?p18 ?n18 <;> clear H
   case' p18 => intro c18b0 c18b1 H; refine iTN (m := 0) (n := l0_5.length) H rfl rfl ?p19 ?n19 <;> clear H
   case' p19 => intro c19b0 c19b1 H
   case' n19 => intro c19b0 c19b1 H
   case' n18 => intro c18 c18b0 c18b1 H
   case' n9 => intro c9 c9b0 c9b1 H
   case' n8 => intro c8b0 c8b1 H; refine iE H ?p24 ?n24 <;> clear H
   case' p24 => intro c24b0 c24b1 H; refine iTN (m := 0) (n := l0_5.length) H rfl rfl ?p25 ?n25 <;> clear H
   case' p25 => intro c25b0 c25b1 H
   case' n25 => intro c25b0 c25b1 H
   case' n24 => intro c24 c24b0 c24b1 H; refine iE H ?p28 ?n28 <;> clear H
   case' p28 => intro c28b0 c28b1 H; refine iTN (m := 0) (n := l0_5.length) H rfl rfl ?p29 ?n29 <;> clear H
   case' p29 => intro c29b0 c29b1 H
   case' n29 => intro c29b0 c29b1 H
   case' n28 => intro c28 c28b0 c28b1 H; refine iE H ?p32 ?n32 <;> clear H
   case' p32 => intro c32b0 c32b1 H; refine iTN (m := 0) (n := l0_5.length) H rfl rfl ?p33 ?n33 <;> clear H
   case' p33 => intro c33b0 c33b1 H
   case' n33 => intro c33b0 c33b1 H
   case' n32 => intro c32 c32b0 c32b1 H
   case' n7 => intro c7 c7b0 c7b1 H; (first | rw [c7b0] | (simp only [q0d, q0e]; rw [c7b0]) | skip); refine iE H ?p37 ?n37 <;> clear H
   case' p37 => intro c37b0 c37b1 H; refine iTN (m := 0) (n := l0_2.length) H rfl rfl ?p38 ?n38 <;> clear H
   case' p38 => intro c38b0 c38b1 H; refine iE H ?p39 ?n39 <;> clear H
   case' p39 => intro c39b0 c39b1 H; refine iTN (m := 0) (n := l0_5.length) H rfl rfl ?p40 ?n40 <;> clear H
   case' p40 => intro c40b0 c40b1 H
   case' n40 => intro c40b0 c40b1 H
   case' n39 => intro c39 c39b0 c39b1 H; refine iE H ?p43 ?n43 <;> clear H
   case' p43 => intro c43b0 c43b1 H; refine iTN (m := 0) (n := l0_5.length) H rfl rfl ?p44 ?n44 <;> clear H
   case' p44 => intro c44b0 c44b1 H
   case' n44 => intro c44b0 c44b1 H
   case' n43 => intro c43 c43b0 c43b1 H; refine iE H ?p47 ?n47 <;> clear H
   case' p47 => intro c47b0 c47b1 H; refine iTN (m := 0) (n := l0_5.length) H rfl rfl ?p48 ?n48 <;> clear H
   case' p48 => intro c48b0 c48b1 H
   case' n48 => intro c48b0 c48b1 H
   case' n47 => intro c47 c47b0 c47b1 H
   case' n38 => intro c38b0 c38b1 H; refine iE H ?p52 ?n52 <;> clear H
   case' p52 => intro c52b0 c52b1 H; refine iTN (m := 0) (n := l0_5.length) H rfl rfl ?p53 ?n53 <;> clear H
   case' p53 => intro c53b0 c53b1 H
   case' n53 => intro c53b0 c53b1 H
   case' n52 => intro c52 c52b0 c52b1 H; refine iE H ?p56 ?n56 <;> clear H
   case' p56 => intro c56b0 c56b1 H; refine iTN (m := 0) (n := l0_5.length) H rfl rfl ?p57 ?n57 <;> clear H
   case' p57 => intro c57b0 c57b1 H
   case' n57 => intro c57b0 c57b1 H
   case' n56 => intro c56 c56b0 c56b1 H; refine iE H ?p60 ?n60 <;> clear H
   case' p60 => intro c60b0 c60b1 H; refine iTN (m := 0) (n := l0_5.length) H rfl rfl ?p61 ?n61 <;> clear H
   case' p61 => intro c61b0 c61b1 H
   case' n61 => intro c61b0 c61b1 H
   case' n60 => intro c60 c60b0 c60b1 H
   case' n37 => intro c37 c37b0 c37b1 H; refine iE H ?p65 ?n65 <;> clear H
   case' p65 => intro c65b0 c65b1 H; refine iTN (m := 0) (n := l0_2.length) H rfl rfl ?p66 ?n66 <;> clear H
   case' p66 => intro c66b0 c66b1 H
   case' n66 => intro c66b0 c66b1 H; refine iE H ?p68 ?n68 <;> clear H
   case' p68 => intro c68b0 c68b1 H; refine iTN (m := 0) (n := l0_5.length) H rfl rfl ?p69 ?n69 <;> clear H
   case' p69 => intro c69b0 c69b1 H
   case' n69 => intro c69b0 c69b1 H
   case' n68 => intro c68 c68b0 c68b1 H; refine iE H ?p72 ?n72 <;> clear H
   case' p72 => intro c72b0 c72b1 H; refine iTN (m := 0) (n := l0_5.length) H rfl rfl ?p73 ?n73 <;> clear H
   case' p73 => intro c73b0 c73b1 H
   case' n73 => intro c73b0 c73b1 H
   case' n72 => intro c72 c72b0 c72b1 H; refine iE H ?p76 ?n76 <;> clear H
   case' p76 => intro c76b0 c76b1 H; refine iTN (m := 0) (n := l0_5.length) H rfl rfl ?p77 ?n77 <;> clear H
   case' p77 => intro c77b0 c77b1 H
   case' n77 => intro c77b0 c77b1 H
   case' n76 => intro c76 c76b0 c76b1 H
   case' n65 => intro c65 c65b0 c65b1 H
   case p11|n11|p15|n15|p19|n19|n18|n9|p25|n25|p29|n29|p33|n33|n32|p40|n40|p44|n44|p48|n48|n47|p53|n53|p57|n57|p61|n61|n60|p66|p69|n69|p73|n73|p77|n77|n76|n65 =>
    have H' := aS H
    clear H
    go_wp2
    repeat (go_quiet (fail); try go_wp2)
    go_meet
    case rel => exact ⟨_, _, zi, H', ⟨by first | omega | exact Nat.le_refl _⟩, ⟨by (with_reducible repeat (first | refine kN ?_ _ | refine kD ?_ | refine kA ?_ _)); exact BK113.out⟩, ⟨by repeat (first | (with_reducible first | exact HB.out | apply bA | apply bN | apply bD | refine bS ?_ GE113.out) | exact HB.out)⟩⟩
  case rest =>
   clear HC4
   obtain ⟨kq, x59_3, rfl, HA, HJ3, BK113, HB⟩ := hcut
   cases kq with
   | zero => exact absurd HA.out (by simp [clerestoryref1_NodeErr.j0])
   | succ kj3 =>
    have H := HA.out
    clear HA
    simp only [clerestoryref1_NodeErr.j0] at H
    refine iV H ?p82 ?n82 <;> clear H
    case' p82 => intro c82 H; subst c82
    case' n82 => intro c82 H; subst c82
    case p82 =>
     obtain rfl := Option.some.inj H
     go_wp2
     repeat (go_quiet (fail); try go_wp2)
     go_ret
     exact ⟨by first | rfl | (simp [q05, q04] <;> rfl) | (simp [*, q05, q04] <;> rfl), by repeat (first | (with_reducible first | exact HB.out | apply bA | apply bN | apply bD | refine bS ?_ GE113.out) | exact HB.out)⟩
    case n82 =>
     have HC83 := aS H
     clear H
     go_upto_region 5 with (fail)
     repeat (go_quiet (fail); go_upto_region 5 with (fail))
     go_cut [68] (fun v68 wc => ∃ (kq : Nat) (x68_82 : Bool), v68 = .bool x68_82 ∧ Aside0 (clerestoryref1_NodeErr.j1 kq x68_82 a0_0 a0_1 l0_2 a0_3 a0_4 l0_5 = some r) ∧ Aside0 (kq ≤ kj3) ∧ Aside0 (wc.heap[gb113]? = some (.cells #[.int .i64 a0_0, .string a0_1, (.slice A0_2 l0_2.length c0_2), .string a0_3, .int .i64 a0_4, (.slice A0_5 l0_5.length c0_5)] 43 (0, 0))) ∧ Aside0 (Below w.heap.size w wc))
     case first =>
      have H := HC83.out
      clear HC83
      refine iE H ?p84 ?n84 <;> clear H
      case' p84 => intro c84b0 c84b1 H
      case' n84 => intro c84 c84b0 c84b1 H
      case p84 =>
       (first | rw [c84b0] | (simp only [q0d, q0e]; rw [c84b0]) | skip)
       replace H := iB H
       obtain ⟨t115, A85, H⟩ := H
       have H' := aS H
       clear H
       obtain ⟨hczL_0, hczL_1, hczL_2, hczL_3, hczL_4, hczL_5, hfzL_0, hfzL_1, hfzL_2, hfzL_3, hfzL_4, hfzL_5⟩ := bk6 BK113.out
       go_wp2_with (first | (go_at_call 120; (with_reducible refine (clerestoryref1_domName.calls kj3 a0_1 true t115 _ A85.out).mono ?_); rintro e w' ⟨rfl, ⟨nd, rfl⟩⟩; (try first | exact ⟨rfl, _, World.drewN_drewN _ _ _⟩ | exact ⟨rfl, _, Eq.trans (World.drewN_drewN _ _ _) (congrArg (World.drewN _) (Nat.add_assoc _ _ _))⟩)))
       repeat (go_quiet (first | (go_at_call 120; (with_reducible refine (clerestoryref1_domName.calls kj3 a0_1 true t115 _ A85.out).mono ?_); rintro e w' ⟨rfl, ⟨nd, rfl⟩⟩; (try first | exact ⟨rfl, _, World.drewN_drewN _ _ _⟩ | exact ⟨rfl, _, Eq.trans (World.drewN_drewN _ _ _) (congrArg (World.drewN _) (Nat.add_assoc _ _ _))⟩))); try go_wp2_with (first | (go_at_call 120; (with_reducible refine (clerestoryref1_domName.calls kj3 a0_1 true t115 _ A85.out).mono ?_); rintro e w' ⟨rfl, ⟨nd, rfl⟩⟩; (try first | exact ⟨rfl, _, World.drewN_drewN _ _ _⟩ | exact ⟨rfl, _, Eq.trans (World.drewN_drewN _ _ _) (congrArg (World.drewN _) (Nat.add_assoc _ _ _))⟩))))
       go_meet
       case rel => exact ⟨_, (!t115), zi, H', ⟨by have := HJ3.out; first | omega | exact Nat.le_refl _⟩, ⟨by (with_reducible repeat (first | refine kN ?_ _ | refine kD ?_ | refine kA ?_ _)); exact BK113.out⟩, ⟨by repeat (first | (with_reducible first | exact HB.out | apply bA | apply bN | apply bD | refine bS ?_ GE113.out) | exact HB.out)⟩⟩
      case n84 =>
       (first | rw [c84b0] | (simp only [q0d, q0e]; rw [c84b0]) | skip)
       have H' := aS H
       clear H
       obtain ⟨hczL_0, hczL_1, hczL_2, hczL_3, hczL_4, hczL_5, hfzL_0, hfzL_1, hfzL_2, hfzL_3, hfzL_4, hfzL_5⟩ := bk6 BK113.out
       go_wp2
       repeat (go_quiet (fail); try go_wp2)
       go_meet
       case rel => exact ⟨_, _, zi, H', ⟨by have := HJ3.out; first | omega | exact Nat.le_refl _⟩, ⟨by (with_reducible repeat (first | refine kN ?_ _ | refine kD ?_ | refine kA ?_ _)); exact BK113.out⟩, ⟨by repeat (first | (with_reducible first | exact HB.out | apply bA | apply bN | apply bD | refine bS ?_ GE113.out) | exact HB.out)⟩⟩
     case rest =>
      clear HC83
      obtain ⟨kq, x68_82, rfl, HA, HJ82, BK113, HB⟩ := hcut
      cases kq with
      | zero => exact absurd HA.out (by simp [clerestoryref1_NodeErr.j1])
      | succ kj82 =>
       have H := HA.out
       clear HA
       simp only [clerestoryref1_NodeErr.j1] at H
       refine iV H ?p88 ?n88 <;> clear H
       case' p88 => intro c88 H; subst c88
       case' n88 =>
        intro c88 H; subst c88
        obtain ⟨hczL_0, hczL_1, hczL_2, hczL_3, hczL_4, hczL_5, hfzL_0, hfzL_1, hfzL_2, hfzL_3, hfzL_4, hfzL_5⟩ := bk6 BK113.out
        refine iTN (m := 12) (n := l0_2.length) H rfl rfl ?p89 ?n89 <;> clear H
       case' p89 => intro c89b0 c89b1 H
       case' n89 => intro c89b0 c89b1 H
       case p88|p89 =>
        obtain rfl := Option.some.inj H
        go_wp2
        repeat (go_quiet (fail); try go_wp2)
        go_ret
        exact ⟨by first | rfl | (simp [q05, q04] <;> rfl) | (simp [*, q05, q04] <;> rfl), by repeat (first | (with_reducible first | exact HB.out | apply bA | apply bN | apply bD | refine bS ?_ GE113.out) | exact HB.out)⟩
       case n89 =>
        have H' := aS H
        clear H
        go_wp2
        repeat (go_quiet (fail); try go_wp2)
        go_loopg [3] kj82 (fun kq v3 w' => ∃ (x3_3 : Int), v3 = .int .i64 x3_3 ∧ Aside0 (clerestoryref1_NodeErr.l0 kq x3_3 a0_0 a0_1 l0_2 a0_3 a0_4 l0_5 = some r) ∧ Aside0 (kq ≤ kj82) ∧ Aside0 (w'.heap[gb113]? = some (.cells #[.int .i64 a0_0, .string a0_1, (.slice A0_2 l0_2.length c0_2), .string a0_3, .int .i64 a0_4, (.slice A0_5 l0_5.length c0_5)] 43 (0, 0))) ∧ Aside0 (Below w.heap.size w w'))
        case atStart => exact ⟨(0), zi, H', ⟨Nat.le_refl _⟩, ⟨by (with_reducible repeat (first | refine kN ?_ _ | refine kD ?_ | refine kA ?_ _)); exact BK113.out⟩, ⟨by repeat (first | (with_reducible first | exact HB.out | apply bA | apply bN | apply bD | refine bS ?_ GE113.out) | exact HB.out)⟩⟩
        case round =>
         clear H'
         obtain ⟨x3_3, rfl, HA, HK3, BK113, HB⟩ := hrel
         cases gk with
         | zero => exact absurd HA.out (by simp [clerestoryref1_NodeErr.l0])
         | succ k3 =>
          have H := HA.out
          clear HA
          simp only [clerestoryref1_NodeErr.l0] at H
          obtain ⟨hczL_0, hczL_1, hczL_2, hczL_3, hczL_4, hczL_5, hfzL_0, hfzL_1, hfzL_2, hfzL_3, hfzL_4, hfzL_5⟩ := bk6 BK113.out
          refine iT H ?p92 ?n92 <;> clear H
          case' p92 => intro c92b0 H; refine iLp H ?_; clear H; intro c93b0 H; replace H := iB H; obtain ⟨t117, A94, H⟩ := H; refine iV H ?p95 ?n95 <;> clear H
          case' p95 => intro c95 H; subst c95; refine iTN (m := 400) (n := ((q03 l0_2 x3_3).f1).size) H rfl rfl ?p96 ?n96 <;> clear H
          case' p96 => intro c96b0 c96b1 H
          case' n96 =>
           intro c96b0 c96b1 H
           have c98b0 := eq_true (od zb : 0 ≤ x3_3)
           refine iGp H ?_; clear H; intro c99 H
           have c99b0 := eq_true c99
           have c99b1 : decide (x3_3 ≤ (l0_2.length : Int)) = true := decide_eq_true c99
           clear c99
           obtain ⟨y119, hy119⟩ : ∃ y_ : List (S122), y_ = (l0_2.take (x3_3 : Int).toNat) := ⟨_, rfl⟩
           replace H : ((clerestoryref1_AttrOf.f k3 y119 ((q03 l0_2 x3_3).f0)).bind fun bt124 => (if bt124.2 = true then (some 3) else (clerestoryref1_NodeErr.l0 k3 (wrap64 (x3_3 + 1)) a0_0 a0_1 l0_2 a0_3 a0_4 l0_5))) = some r := by first | (rw [hy119]; with_reducible exact H) | (have H2_ := (Option.bind_some _ _).symm.trans H; rw [hy119]; with_reducible exact H2_) | (have H2_ := (Option.bind_some _ _).symm.trans H; with_reducible exact H2_) | with_reducible exact H | (rw [hy119]; exact H) | exact H
           have Ny119 := aS hy119
           clear hy119
           replace H := iB H
           obtain ⟨⟨t124, t125⟩, A100, H⟩ := H
           try dsimp only at H
           obtain ⟨ad116, e116, hx116_0, hx116_1, p116, q116⟩ := q19 HB.out HR0_2.out x3_3 zb zb
           cases e116
           refine iV H ?p101 ?n101 <;> clear H
          case' p101 => intro c101 H; subst c101
          case' n101 => intro c101 H; subst c101
          case' n95 => intro c95 H; subst c95
          case' n92 => intro c92b0 H; refine iTN (m := 400) (n := a0_3.size) H rfl rfl ?p107 ?n107 <;> clear H
          case' p107 => intro c107b0 c107b1 H
          case' n107 => intro c107b0 c107b1 H; refine iTN (m := 400) (n := a0_1.size) H rfl rfl ?p109 ?n109 <;> clear H
          case' p109 => intro c109b0 c109b1 H
          case' n109 => intro c109b0 c109b1 H
          case p96 =>
           obtain rfl := Option.some.inj H
           obtain ⟨ad116, e116, hx116_0, hx116_1, p116, q116⟩ := q19 HB.out HR0_2.out x3_3 zb zb
           cases e116
           go_wp2_with (first | (go_at_call 120; (with_reducible refine (clerestoryref1_domName.calls k3 ((q03 l0_2 x3_3).f0) false true _ A94.out).mono ?_); rintro e w' ⟨rfl, ⟨nd, rfl⟩⟩; (try first | exact ⟨rfl, _, World.drewN_drewN _ _ _⟩ | exact ⟨rfl, _, Eq.trans (World.drewN_drewN _ _ _) (congrArg (World.drewN _) (Nat.add_assoc _ _ _))⟩); obtain ⟨ad118, e118, hx118_0, hx118_1, p118, q118⟩ := q19 HB.out HR0_2.out x3_3 zb zb; obtain rfl : ad116 = ad118 := (by injection e118)))
           repeat (go_quiet (first | (go_at_call 120; (with_reducible refine (clerestoryref1_domName.calls k3 ((q03 l0_2 x3_3).f0) false true _ A94.out).mono ?_); rintro e w' ⟨rfl, ⟨nd, rfl⟩⟩; (try first | exact ⟨rfl, _, World.drewN_drewN _ _ _⟩ | exact ⟨rfl, _, Eq.trans (World.drewN_drewN _ _ _) (congrArg (World.drewN _) (Nat.add_assoc _ _ _))⟩); obtain ⟨ad118, e118, hx118_0, hx118_1, p118, q118⟩ := q19 HB.out HR0_2.out x3_3 zb zb; obtain rfl : ad116 = ad118 := (by injection e118))); try go_wp2_with (first | (go_at_call 120; (with_reducible refine (clerestoryref1_domName.calls k3 ((q03 l0_2 x3_3).f0) false true _ A94.out).mono ?_); rintro e w' ⟨rfl, ⟨nd, rfl⟩⟩; (try first | exact ⟨rfl, _, World.drewN_drewN _ _ _⟩ | exact ⟨rfl, _, Eq.trans (World.drewN_drewN _ _ _) (congrArg (World.drewN _) (Nat.add_assoc _ _ _))⟩); obtain ⟨ad118, e118, hx118_0, hx118_1, p118, q118⟩ := q19 HB.out HR0_2.out x3_3 zb zb; obtain rfl : ad116 = ad118 := (by injection e118))))
           go_ret
           exact ⟨by first | rfl | (simp [q05, q04] <;> rfl) | (simp [*, q05, q04] <;> rfl), by repeat (first | (with_reducible first | exact HB.out | apply bA | apply bN | apply bD | refine bS ?_ GE113.out) | exact HB.out)⟩
          case p101 =>
           obtain rfl := Option.some.inj H
           go_wp2_with (first | (go_at_call 120; (with_reducible refine (clerestoryref1_domName.calls k3 ((q03 l0_2 x3_3).f0) false true _ A94.out).mono ?_); rintro e w' ⟨rfl, ⟨nd, rfl⟩⟩; (try first | exact ⟨rfl, _, World.drewN_drewN _ _ _⟩ | exact ⟨rfl, _, Eq.trans (World.drewN_drewN _ _ _) (congrArg (World.drewN _) (Nat.add_assoc _ _ _))⟩); obtain ⟨ad118, e118, hx118_0, hx118_1, p118, q118⟩ := q19 HB.out HR0_2.out x3_3 zb zb; obtain rfl : ad116 = ad118 := (by injection e118); have q103 : (x3_3 : Int) ≤ ((l0_2.length : Int) : Int) := od zb; obtain ⟨i0103, hi0103, _, hsz103, _⟩ := info_parts q1u; have hroom103 : l0_2.length ≤ c0_2 := HC0_2.out; have hC103 : Kd.C k122 _ (some ad116) l0_2.length l0_2 := HR0_2.out; have hcut103 := cut_to (P := Tryd.prog) 41 122 .i64 Tryd.underlying41 hi0103 (some ad116) l0_2.length c0_2 x3_3 (od zb) q103 hroom103; have hr103 := Kd.C_take (m := (x3_3 : Int).toNat) hC103 (by omega); have hy103 : y119.length = (x3_3 : Int).toNat := (by rw [Ny119.out, List.length_take]; omega); rw [← Ny119.out] at hr103; rw [← hy103] at hcut103; have HR122 := aS hr103; have HC122 := aS (show y119.length ≤ c0_2 from by omega); clear hr103 hC103 hroom103 hi0103 hsz103; have KY103 := aS hy103; clear hy103; replace q103 := eq_true q103; obtain ⟨ad123, e123, hx123_0, hx123_1, p123, q123⟩ := q19 HB.out HR0_2.out x3_3 zb zb; obtain rfl : ad116 = ad123 := (by injection e123)) | (go_at_call 64; (with_reducible refine (clerestoryref1_AttrOf.calls k3 _ _ y119 ((q03 l0_2 x3_3).f0) t124 true _ ?side1 ?side2 A100.out).mono ?_); (case side1 => repeat (first | exact (Kd.C_below HR122.out (z6 HB.out GE113.out)) | (with_reducible refine cA ?_ _) | (with_reducible refine cN ?_ _) | (with_reducible refine cD ?_))); (case side2 => exact HC122.out); rintro e w' ⟨rfl, ⟨nd, rfl⟩⟩; (try first | exact ⟨rfl, _, World.drewN_drewN _ _ _⟩ | exact ⟨rfl, _, Eq.trans (World.drewN_drewN _ _ _) (congrArg (World.drewN _) (Nat.add_assoc _ _ _))⟩)))
           repeat (go_quiet (first | (go_at_call 120; (with_reducible refine (clerestoryref1_domName.calls k3 ((q03 l0_2 x3_3).f0) false true _ A94.out).mono ?_); rintro e w' ⟨rfl, ⟨nd, rfl⟩⟩; (try first | exact ⟨rfl, _, World.drewN_drewN _ _ _⟩ | exact ⟨rfl, _, Eq.trans (World.drewN_drewN _ _ _) (congrArg (World.drewN _) (Nat.add_assoc _ _ _))⟩); obtain ⟨ad118, e118, hx118_0, hx118_1, p118, q118⟩ := q19 HB.out HR0_2.out x3_3 zb zb; obtain rfl : ad116 = ad118 := (by injection e118); have q103 : (x3_3 : Int) ≤ ((l0_2.length : Int) : Int) := od zb; obtain ⟨i0103, hi0103, _, hsz103, _⟩ := info_parts q1u; have hroom103 : l0_2.length ≤ c0_2 := HC0_2.out; have hC103 : Kd.C k122 _ (some ad116) l0_2.length l0_2 := HR0_2.out; have hcut103 := cut_to (P := Tryd.prog) 41 122 .i64 Tryd.underlying41 hi0103 (some ad116) l0_2.length c0_2 x3_3 (od zb) q103 hroom103; have hr103 := Kd.C_take (m := (x3_3 : Int).toNat) hC103 (by omega); have hy103 : y119.length = (x3_3 : Int).toNat := (by rw [Ny119.out, List.length_take]; omega); rw [← Ny119.out] at hr103; rw [← hy103] at hcut103; have HR122 := aS hr103; have HC122 := aS (show y119.length ≤ c0_2 from by omega); clear hr103 hC103 hroom103 hi0103 hsz103; have KY103 := aS hy103; clear hy103; replace q103 := eq_true q103; obtain ⟨ad123, e123, hx123_0, hx123_1, p123, q123⟩ := q19 HB.out HR0_2.out x3_3 zb zb; obtain rfl : ad116 = ad123 := (by injection e123)) | (go_at_call 64; (with_reducible refine (clerestoryref1_AttrOf.calls k3 _ _ y119 ((q03 l0_2 x3_3).f0) t124 true _ ?side1 ?side2 A100.out).mono ?_); (case side1 => repeat (first | exact (Kd.C_below HR122.out (z6 HB.out GE113.out)) | (with_reducible refine cA ?_ _) | (with_reducible refine cN ?_ _) | (with_reducible refine cD ?_))); (case side2 => exact HC122.out); rintro e w' ⟨rfl, ⟨nd, rfl⟩⟩; (try first | exact ⟨rfl, _, World.drewN_drewN _ _ _⟩ | exact ⟨rfl, _, Eq.trans (World.drewN_drewN _ _ _) (congrArg (World.drewN _) (Nat.add_assoc _ _ _))⟩))); try go_wp2_with (first | (go_at_call 120; (with_reducible refine (clerestoryref1_domName.calls k3 ((q03 l0_2 x3_3).f0) false true _ A94.out).mono ?_); rintro e w' ⟨rfl, ⟨nd, rfl⟩⟩; (try first | exact ⟨rfl, _, World.drewN_drewN _ _ _⟩ | exact ⟨rfl, _, Eq.trans (World.drewN_drewN _ _ _) (congrArg (World.drewN _) (Nat.add_assoc _ _ _))⟩); obtain ⟨ad118, e118, hx118_0, hx118_1, p118, q118⟩ := q19 HB.out HR0_2.out x3_3 zb zb; obtain rfl : ad116 = ad118 := (by injection e118); have q103 : (x3_3 : Int) ≤ ((l0_2.length : Int) : Int) := od zb; obtain ⟨i0103, hi0103, _, hsz103, _⟩ := info_parts q1u; have hroom103 : l0_2.length ≤ c0_2 := HC0_2.out; have hC103 : Kd.C k122 _ (some ad116) l0_2.length l0_2 := HR0_2.out; have hcut103 := cut_to (P := Tryd.prog) 41 122 .i64 Tryd.underlying41 hi0103 (some ad116) l0_2.length c0_2 x3_3 (od zb) q103 hroom103; have hr103 := Kd.C_take (m := (x3_3 : Int).toNat) hC103 (by omega); have hy103 : y119.length = (x3_3 : Int).toNat := (by rw [Ny119.out, List.length_take]; omega); rw [← Ny119.out] at hr103; rw [← hy103] at hcut103; have HR122 := aS hr103; have HC122 := aS (show y119.length ≤ c0_2 from by omega); clear hr103 hC103 hroom103 hi0103 hsz103; have KY103 := aS hy103; clear hy103; replace q103 := eq_true q103; obtain ⟨ad123, e123, hx123_0, hx123_1, p123, q123⟩ := q19 HB.out HR0_2.out x3_3 zb zb; obtain rfl : ad116 = ad123 := (by injection e123)) | (go_at_call 64; (with_reducible refine (clerestoryref1_AttrOf.calls k3 _ _ y119 ((q03 l0_2 x3_3).f0) t124 true _ ?side1 ?side2 A100.out).mono ?_); (case side1 => repeat (first | exact (Kd.C_below HR122.out (z6 HB.out GE113.out)) | (with_reducible refine cA ?_ _) | (with_reducible refine cN ?_ _) | (with_reducible refine cD ?_))); (case side2 => exact HC122.out); rintro e w' ⟨rfl, ⟨nd, rfl⟩⟩; (try first | exact ⟨rfl, _, World.drewN_drewN _ _ _⟩ | exact ⟨rfl, _, Eq.trans (World.drewN_drewN _ _ _) (congrArg (World.drewN _) (Nat.add_assoc _ _ _))⟩))))
           go_ret
           exact ⟨by first | rfl | (simp [q05, q04] <;> rfl) | (simp [*, q05, q04] <;> rfl), by repeat (first | (with_reducible first | exact HB.out | apply bA | apply bN | apply bD | refine bS ?_ GE113.out) | exact HB.out)⟩
          case n101 =>
           have H' := aS H
           clear H
           go_wp2_with (first | (go_at_call 120; (with_reducible refine (clerestoryref1_domName.calls k3 ((q03 l0_2 x3_3).f0) false true _ A94.out).mono ?_); rintro e w' ⟨rfl, ⟨nd, rfl⟩⟩; (try first | exact ⟨rfl, _, World.drewN_drewN _ _ _⟩ | exact ⟨rfl, _, Eq.trans (World.drewN_drewN _ _ _) (congrArg (World.drewN _) (Nat.add_assoc _ _ _))⟩); obtain ⟨ad118, e118, hx118_0, hx118_1, p118, q118⟩ := q19 HB.out HR0_2.out x3_3 zb zb; obtain rfl : ad116 = ad118 := (by injection e118); have q105 : (x3_3 : Int) ≤ ((l0_2.length : Int) : Int) := od zb; obtain ⟨i0105, hi0105, _, hsz105, _⟩ := info_parts q1u; have hroom105 : l0_2.length ≤ c0_2 := HC0_2.out; have hC105 : Kd.C k122 _ (some ad116) l0_2.length l0_2 := HR0_2.out; have hcut105 := cut_to (P := Tryd.prog) 41 122 .i64 Tryd.underlying41 hi0105 (some ad116) l0_2.length c0_2 x3_3 (od zb) q105 hroom105; have hr105 := Kd.C_take (m := (x3_3 : Int).toNat) hC105 (by omega); have hy105 : y119.length = (x3_3 : Int).toNat := (by rw [Ny119.out, List.length_take]; omega); rw [← Ny119.out] at hr105; rw [← hy105] at hcut105; have HR122 := aS hr105; have HC122 := aS (show y119.length ≤ c0_2 from by omega); clear hr105 hC105 hroom105 hi0105 hsz105; have KY105 := aS hy105; clear hy105; replace q105 := eq_true q105; obtain ⟨ad123, e123, hx123_0, hx123_1, p123, q123⟩ := q19 HB.out HR0_2.out x3_3 zb zb; obtain rfl : ad116 = ad123 := (by injection e123)) | (go_at_call 64; (with_reducible refine (clerestoryref1_AttrOf.calls k3 _ _ y119 ((q03 l0_2 x3_3).f0) t124 false _ ?side1 ?side2 A100.out).mono ?_); (case side1 => repeat (first | exact (Kd.C_below HR122.out (z6 HB.out GE113.out)) | (with_reducible refine cA ?_ _) | (with_reducible refine cN ?_ _) | (with_reducible refine cD ?_))); (case side2 => exact HC122.out); rintro e w' ⟨rfl, ⟨nd, rfl⟩⟩; (try first | exact ⟨rfl, _, World.drewN_drewN _ _ _⟩ | exact ⟨rfl, _, Eq.trans (World.drewN_drewN _ _ _) (congrArg (World.drewN _) (Nat.add_assoc _ _ _))⟩)))
           repeat (go_quiet (first | (go_at_call 120; (with_reducible refine (clerestoryref1_domName.calls k3 ((q03 l0_2 x3_3).f0) false true _ A94.out).mono ?_); rintro e w' ⟨rfl, ⟨nd, rfl⟩⟩; (try first | exact ⟨rfl, _, World.drewN_drewN _ _ _⟩ | exact ⟨rfl, _, Eq.trans (World.drewN_drewN _ _ _) (congrArg (World.drewN _) (Nat.add_assoc _ _ _))⟩); obtain ⟨ad118, e118, hx118_0, hx118_1, p118, q118⟩ := q19 HB.out HR0_2.out x3_3 zb zb; obtain rfl : ad116 = ad118 := (by injection e118); have q105 : (x3_3 : Int) ≤ ((l0_2.length : Int) : Int) := od zb; obtain ⟨i0105, hi0105, _, hsz105, _⟩ := info_parts q1u; have hroom105 : l0_2.length ≤ c0_2 := HC0_2.out; have hC105 : Kd.C k122 _ (some ad116) l0_2.length l0_2 := HR0_2.out; have hcut105 := cut_to (P := Tryd.prog) 41 122 .i64 Tryd.underlying41 hi0105 (some ad116) l0_2.length c0_2 x3_3 (od zb) q105 hroom105; have hr105 := Kd.C_take (m := (x3_3 : Int).toNat) hC105 (by omega); have hy105 : y119.length = (x3_3 : Int).toNat := (by rw [Ny119.out, List.length_take]; omega); rw [← Ny119.out] at hr105; rw [← hy105] at hcut105; have HR122 := aS hr105; have HC122 := aS (show y119.length ≤ c0_2 from by omega); clear hr105 hC105 hroom105 hi0105 hsz105; have KY105 := aS hy105; clear hy105; replace q105 := eq_true q105; obtain ⟨ad123, e123, hx123_0, hx123_1, p123, q123⟩ := q19 HB.out HR0_2.out x3_3 zb zb; obtain rfl : ad116 = ad123 := (by injection e123)) | (go_at_call 64; (with_reducible refine (clerestoryref1_AttrOf.calls k3 _ _ y119 ((q03 l0_2 x3_3).f0) t124 false _ ?side1 ?side2 A100.out).mono ?_); (case side1 => repeat (first | exact (Kd.C_below HR122.out (z6 HB.out GE113.out)) | (with_reducible refine cA ?_ _) | (with_reducible refine cN ?_ _) | (with_reducible refine cD ?_))); (case side2 => exact HC122.out); rintro e w' ⟨rfl, ⟨nd, rfl⟩⟩; (try first | exact ⟨rfl, _, World.drewN_drewN _ _ _⟩ | exact ⟨rfl, _, Eq.trans (World.drewN_drewN _ _ _) (congrArg (World.drewN _) (Nat.add_assoc _ _ _))⟩))); try go_wp2_with (first | (go_at_call 120; (with_reducible refine (clerestoryref1_domName.calls k3 ((q03 l0_2 x3_3).f0) false true _ A94.out).mono ?_); rintro e w' ⟨rfl, ⟨nd, rfl⟩⟩; (try first | exact ⟨rfl, _, World.drewN_drewN _ _ _⟩ | exact ⟨rfl, _, Eq.trans (World.drewN_drewN _ _ _) (congrArg (World.drewN _) (Nat.add_assoc _ _ _))⟩); obtain ⟨ad118, e118, hx118_0, hx118_1, p118, q118⟩ := q19 HB.out HR0_2.out x3_3 zb zb; obtain rfl : ad116 = ad118 := (by injection e118); have q105 : (x3_3 : Int) ≤ ((l0_2.length : Int) : Int) := od zb; obtain ⟨i0105, hi0105, _, hsz105, _⟩ := info_parts q1u; have hroom105 : l0_2.length ≤ c0_2 := HC0_2.out; have hC105 : Kd.C k122 _ (some ad116) l0_2.length l0_2 := HR0_2.out; have hcut105 := cut_to (P := Tryd.prog) 41 122 .i64 Tryd.underlying41 hi0105 (some ad116) l0_2.length c0_2 x3_3 (od zb) q105 hroom105; have hr105 := Kd.C_take (m := (x3_3 : Int).toNat) hC105 (by omega); have hy105 : y119.length = (x3_3 : Int).toNat := (by rw [Ny119.out, List.length_take]; omega); rw [← Ny119.out] at hr105; rw [← hy105] at hcut105; have HR122 := aS hr105; have HC122 := aS (show y119.length ≤ c0_2 from by omega); clear hr105 hC105 hroom105 hi0105 hsz105; have KY105 := aS hy105; clear hy105; replace q105 := eq_true q105; obtain ⟨ad123, e123, hx123_0, hx123_1, p123, q123⟩ := q19 HB.out HR0_2.out x3_3 zb zb; obtain rfl : ad116 = ad123 := (by injection e123)) | (go_at_call 64; (with_reducible refine (clerestoryref1_AttrOf.calls k3 _ _ y119 ((q03 l0_2 x3_3).f0) t124 false _ ?side1 ?side2 A100.out).mono ?_); (case side1 => repeat (first | exact (Kd.C_below HR122.out (z6 HB.out GE113.out)) | (with_reducible refine cA ?_ _) | (with_reducible refine cN ?_ _) | (with_reducible refine cD ?_))); (case side2 => exact HC122.out); rintro e w' ⟨rfl, ⟨nd, rfl⟩⟩; (try first | exact ⟨rfl, _, World.drewN_drewN _ _ _⟩ | exact ⟨rfl, _, Eq.trans (World.drewN_drewN _ _ _) (congrArg (World.drewN _) (Nat.add_assoc _ _ _))⟩))))
           go_roundg k3
           case measure => have := HJ3.out; have := HJ82.out; have := HK3.out; omega
           case rel => exact ⟨(wrap64 (x3_3 + 1)), zi, H', ⟨by have := HJ3.out; have := HJ82.out; have := HK3.out; omega⟩, ⟨by (with_reducible repeat (first | refine kN ?_ _ | refine kD ?_ | refine kA ?_ _)); exact BK113.out⟩, ⟨by repeat (first | (with_reducible first | exact HB.out | apply bA | apply bN | apply bD | refine bS ?_ GE113.out) | exact HB.out)⟩⟩
          case n95 =>
           obtain rfl := Option.some.inj H
           obtain ⟨ad116, e116, hx116_0, hx116_1, p116, q116⟩ := q19 HB.out HR0_2.out x3_3 zb zb
           cases e116
           go_wp2_with (first | (go_at_call 120; (with_reducible refine (clerestoryref1_domName.calls k3 ((q03 l0_2 x3_3).f0) false false _ A94.out).mono ?_); rintro e w' ⟨rfl, ⟨nd, rfl⟩⟩; (try first | exact ⟨rfl, _, World.drewN_drewN _ _ _⟩ | exact ⟨rfl, _, Eq.trans (World.drewN_drewN _ _ _) (congrArg (World.drewN _) (Nat.add_assoc _ _ _))⟩)))
           repeat (go_quiet (first | (go_at_call 120; (with_reducible refine (clerestoryref1_domName.calls k3 ((q03 l0_2 x3_3).f0) false false _ A94.out).mono ?_); rintro e w' ⟨rfl, ⟨nd, rfl⟩⟩; (try first | exact ⟨rfl, _, World.drewN_drewN _ _ _⟩ | exact ⟨rfl, _, Eq.trans (World.drewN_drewN _ _ _) (congrArg (World.drewN _) (Nat.add_assoc _ _ _))⟩))); try go_wp2_with (first | (go_at_call 120; (with_reducible refine (clerestoryref1_domName.calls k3 ((q03 l0_2 x3_3).f0) false false _ A94.out).mono ?_); rintro e w' ⟨rfl, ⟨nd, rfl⟩⟩; (try first | exact ⟨rfl, _, World.drewN_drewN _ _ _⟩ | exact ⟨rfl, _, Eq.trans (World.drewN_drewN _ _ _) (congrArg (World.drewN _) (Nat.add_assoc _ _ _))⟩))))
           go_ret
           exact ⟨by first | rfl | (simp [q05, q04] <;> rfl) | (simp [*, q05, q04] <;> rfl), by repeat (first | (with_reducible first | exact HB.out | apply bA | apply bN | apply bD | refine bS ?_ GE113.out) | exact HB.out)⟩
          case p107|p109|n109 =>
           obtain rfl := Option.some.inj H
           go_wp2
           repeat (go_quiet (fail); try go_wp2)
           go_ret
           exact ⟨by first | rfl | (simp [q05, q04] <;> rfl) | (simp [*, q05, q04] <;> rfl), by repeat (first | (with_reducible first | exact HB.out | apply bA | apply bN | apply bD | refine bS ?_ GE113.out) | exact HB.out)⟩
 case n3 =>
  obtain rfl := Option.some.inj H
  go_enter Tryd.func72, Tryd.ntmps72
  go_wp2_with (first | ((with_reducible refine q07 (N := 1) rfl ?_); (try (refine q12 (by rfl) ?_; dsimp only)); refine box0 rfl (N := 1) rfl (cs := #[.int .i64 a0_0, .string a0_1, .slice A0_2 l0_2.length c0_2, .string a0_3, .int .i64 a0_4, .slice A0_5 l0_5.length c0_5]) (t := 43) zh (z7 HB.out) ?_; clear HB; intro gb113 w112 BK113 GW113 HB; have GE113 := GW113; obtain ⟨hczL_0, hczL_1, hczL_2, hczL_3, hczL_4, hczL_5, hfzL_0, hfzL_1, hfzL_2, hfzL_3, hfzL_4, hfzL_5⟩ := bk6 BK113.out) | (go_at_call 73; (with_reducible refine (clerestoryref1_between.calls a0_0 1 5 false _ A2.out).mono ?_); rintro e w' ⟨rfl, ⟨nd, rfl⟩⟩; (try first | exact ⟨rfl, _, World.drewN_drewN _ _ _⟩ | exact ⟨rfl, _, Eq.trans (World.drewN_drewN _ _ _) (congrArg (World.drewN _) (Nat.add_assoc _ _ _))⟩)))
  repeat (go_quiet (first | ((with_reducible refine q07 (N := 1) rfl ?_); (try (refine q12 (by rfl) ?_; dsimp only)); refine box0 rfl (N := 1) rfl (cs := #[.int .i64 a0_0, .string a0_1, .slice A0_2 l0_2.length c0_2, .string a0_3, .int .i64 a0_4, .slice A0_5 l0_5.length c0_5]) (t := 43) zh (z7 HB.out) ?_; clear HB; intro gb113 w112 BK113 GW113 HB; have GE113 := GW113; obtain ⟨hczL_0, hczL_1, hczL_2, hczL_3, hczL_4, hczL_5, hfzL_0, hfzL_1, hfzL_2, hfzL_3, hfzL_4, hfzL_5⟩ := bk6 BK113.out) | (go_at_call 73; (with_reducible refine (clerestoryref1_between.calls a0_0 1 5 false _ A2.out).mono ?_); rintro e w' ⟨rfl, ⟨nd, rfl⟩⟩; (try first | exact ⟨rfl, _, World.drewN_drewN _ _ _⟩ | exact ⟨rfl, _, Eq.trans (World.drewN_drewN _ _ _) (congrArg (World.drewN _) (Nat.add_assoc _ _ _))⟩))); try go_wp2_with (first | ((with_reducible refine q07 (N := 1) rfl ?_); (try (refine q12 (by rfl) ?_; dsimp only)); refine box0 rfl (N := 1) rfl (cs := #[.int .i64 a0_0, .string a0_1, .slice A0_2 l0_2.length c0_2, .string a0_3, .int .i64 a0_4, .slice A0_5 l0_5.length c0_5]) (t := 43) zh (z7 HB.out) ?_; clear HB; intro gb113 w112 BK113 GW113 HB; have GE113 := GW113; obtain ⟨hczL_0, hczL_1, hczL_2, hczL_3, hczL_4, hczL_5, hfzL_0, hfzL_1, hfzL_2, hfzL_3, hfzL_4, hfzL_5⟩ := bk6 BK113.out) | (go_at_call 73; (with_reducible refine (clerestoryref1_between.calls a0_0 1 5 false _ A2.out).mono ?_); rintro e w' ⟨rfl, ⟨nd, rfl⟩⟩; (try first | exact ⟨rfl, _, World.drewN_drewN _ _ _⟩ | exact ⟨rfl, _, Eq.trans (World.drewN_drewN _ _ _) (congrArg (World.drewN _) (Nat.add_assoc _ _ _))⟩))))
  go_ret
  exact ⟨by first | rfl | (simp [q05, q04] <;> rfl) | (simp [*, q05, q04] <;> rfl), by repeat (first | (with_reducible first | exact HB.out | apply bA | apply bN | apply bD | refine bS ?_ GE113.out) | exact HB.out)⟩
end Go.Proofs.YthjnallbbhnndaaDoor.XDe
namespace Go.Proofs.YthjnallbbhnndaaDoor.XDe
open Go.Proofs.YthjnallbbhnndaaDoor.Short Go.RowKit Go.Proofs.YthjnallbbhnndaaDoorW.PrintWords Go.Proofs.YthjnallbbhnndaaDoorW.PrintLast Go.Proofs.YthjnallbbhnndaaDoorW.PrintMore
attribute [local go_sem] q16 q14 q1g q1f q0s q0r q15 q13   -- for this text's walks alone
set_option linter.unusedVariables false
set_option linter.unusedSimpArgs false
def clerestoryref1_placeIn.l0 : Nat → List Int → Int → Int → Option (Int)
 | 0, _, _, _ => none
 | k + 1, x0, x1, x5 => if x5 < (x0.length : Int) then (if 0 ≤ x5 then (if (rd x0 x5) = x1 then (some x5) else (clerestoryref1_placeIn.l0 k x0 x1 (wrap64 (x5 + 1)))) else (none)) else (some (-1))
def clerestoryref1_placeIn.f (k : Nat) (l0 : List Int) (a1 : Int) : Option (Int) := clerestoryref1_placeIn.l0 k l0 a1 0
theorem clerestoryref1_placeIn.mono_l : ∀ k, (∀ y0 y1 y2, LeO (clerestoryref1_placeIn.l0 k y0 y1 y2) (clerestoryref1_placeIn.l0 (k + 1) y0 y1 y2))
 | 0 => fun _ _ _ r h => by simp [clerestoryref1_placeIn.l0] at h
 | k + 1 => by
  have ih0 := clerestoryref1_placeIn.mono_l k
  ·intro y0 y1 y2
   unfold clerestoryref1_placeIn.l0
   repeat' first | with_reducible first | apply ih0 | exact LeO.refl _ | exact LeO.none _ | refine LeO.ite ?_ ?_ | refine LeO.bind ?_ (fun _ => ?_) | (first | apply ih0 | exact LeO.none _ | refine LeO.ite ?_ ?_ | refine LeO.bind ?_ (fun _ => ?_))
theorem clerestoryref1_placeIn.mono : ∀ a0 a1 k, LeO (clerestoryref1_placeIn.f k a0 a1) (clerestoryref1_placeIn.f (k + 1) a0 a1) := by
 intro a0 a1 k
 have ih0 := clerestoryref1_placeIn.mono_l k
 unfold clerestoryref1_placeIn.f
 repeat' first | with_reducible first | apply ih0 | exact LeO.refl _ | exact LeO.none _ | refine LeO.ite ?_ ?_ | refine LeO.bind ?_ (fun _ => ?_) | (first | apply ih0 | exact LeO.none _ | refine LeO.ite ?_ ?_ | refine LeO.bind ?_ (fun _ => ?_))
set_option maxHeartbeats 8000000 in
set_option maxRecDepth 100000 in
theorem clerestoryref1_placeIn.calls (k : Nat) (A0 : Option Addr) (c0 : Nat) (l0 : List Int) (a1 : Int) (r : Int) (w : World) (hr0 : Kd.C (Kd.int .i64) w A0 l0.length l0) (hc0 : l0.length ≤ c0) (h : clerestoryref1_placeIn.f k l0 a1 = some r) :
 Calls Tryd.prog 74 #[.slice A0 l0.length c0, .int .i64 a1] w fun e w' => e = .returned (.int .i64 r) ∧ Drawn0 w w' := by
 have HR0 := aS hr0
 have HC0 := aS hc0
 clear hr0 hc0
 have H := h; clear h; unfold clerestoryref1_placeIn.f at H
 have H' := aS H
 clear H
 go_enter Tryd.func74, Tryd.ntmps74
 go_wp2
 go_loopg [5] k (fun kq v5 w' => ∃ (x5_1 : Int), v5 = .int .i64 x5_1 ∧ Aside0 (clerestoryref1_placeIn.l0 kq l0 a1 x5_1 = some r) ∧ Aside0 (kq ≤ k) ∧ Drawn0 w w')
 case atStart => exact ⟨(0), zi, H', ⟨Nat.le_refl _⟩, by repeat (first | exact Drawn0.refl _ | apply Drawn0.step)⟩
 case round =>
  clear H'
  obtain ⟨x5_1, rfl, HA, HK1, ⟨m1, rfl⟩⟩ := hrel
  cases gk with
  | zero => exact absurd HA.out (by simp [clerestoryref1_placeIn.l0])
  | succ k1 =>
   have H := HA.out
   clear HA
   simp only [clerestoryref1_placeIn.l0] at H
   refine iT H ?p3 ?n3 <;> clear H
   case' p3 =>
    intro c3b0 H
    refine iLp H ?_; clear H; intro c4b0 H
    obtain ⟨ad126, e126, hx126_0, p126, q126⟩ := atIA HR0.out x5_1 zb zb
    cases e126
    refine iE H ?p5 ?n5 <;> clear H
   case' p5 => intro c5b0 c5b1 H
   case' n5 => intro c5 c5b0 c5b1 H
   case' n3 => intro c3b0 H
   case p5|n3 =>
    obtain rfl := Option.some.inj H
    go_wp2
    go_ret
    exact ⟨by first | rfl | (simp; done) | (simp [*]; done), by repeat (first | exact Drawn0.refl _ | apply Drawn0.step)⟩
   case n5 =>
    have H' := aS H
    clear H
    go_wp2
    go_roundg k1
    case measure => have := HK1.out; omega
    case rel => exact ⟨(wrap64 (x5_1 + 1)), zi, H', ⟨by have := HK1.out; omega⟩, by repeat (first | exact Drawn0.refl _ | apply Drawn0.step)⟩
end Go.Proofs.YthjnallbbhnndaaDoor.XDe
namespace Go.Proofs.YthjnallbbhnndaaDoor.XDe
open Go.Proofs.YthjnallbbhnndaaDoor.Short Go.RowKit Go.Proofs.YthjnallbbhnndaaDoorW.PrintWords Go.Proofs.YthjnallbbhnndaaDoorW.PrintLast Go.Proofs.YthjnallbbhnndaaDoorW.PrintMore
attribute [local go_sem] q16 q14 q1g q1f q0s q0r q15 q13   -- for this text's walks alone
set_option linter.unusedVariables false
set_option linter.unusedSimpArgs false
mutual
def clerestoryref1_DocErr.l0 : Nat → Int → Int → List (S43) → Bool → Option (Int)
 | 0, _, _, _, _ => none
 | k + 1, x3, x4, x128000, x128001 => if x4 < x3 then (if x4 = 0 then (if 0 ≤ x4 then (if x4 < (x128000.length : Int) then (if ((q00 x128000 x4).f0) = 1 then (if x4 > 0 then (clerestoryref1_DocErr.j1 k x3 x4 (((q00 x128000 x4).f0) == 1) x128000 x128001) else (clerestoryref1_DocErr.j1 k x3 x4 false x128000 x128001)) else (clerestoryref1_DocErr.j1 k x3 x4 true x128000 x128001)) else (none)) else (none)) else (if x4 > 0 then (if 0 ≤ x4 then (if x4 < (x128000.length : Int) then (clerestoryref1_DocErr.j1 k x3 x4 (((q00 x128000 x4).f0) == 1) x128000 x128001) else (none)) else (none)) else (clerestoryref1_DocErr.j1 k x3 x4 false x128000 x128001))) else (clerestoryref1_DocErr.l1 k x3 0 x128000 x128001)
def clerestoryref1_DocErr.j1 : Nat → Int → Int → Bool → List (S43) → Bool → Option (Int)
 | 0, _, _, _, _, _ => none
 | k + 1, x3, x4, x48, x128000, x128001 => if x48 = true then (some 3) else (if 0 ≤ x4 then (if x4 < (x128000.length : Int) then ((clerestoryref1_NodeErr.f k ((q00 x128000 x4).f0) ((q00 x128000 x4).f1) ((q00 x128000 x4).f2) ((q00 x128000 x4).f3) ((q00 x128000 x4).f4) ((q00 x128000 x4).f5)).bind fun t132 => (if t132 = 0 then (clerestoryref1_DocErr.l0 k x3 (wrap64 (x4 + 1)) x128000 x128001) else (some t132))) else (none)) else (none))
def clerestoryref1_DocErr.l1 : Nat → Int → Int → List (S43) → Bool → Option (Int)
 | 0, _, _, _, _ => none
 | k + 1, x3, x6, x128000, x128001 => if x6 < x3 then (clerestoryref1_DocErr.l2 k x3 x6 0 x128000 x128001) else (clerestoryref1_DocErr.l3 k x3 0 x128000 x128001)
def clerestoryref1_DocErr.l2 : Nat → Int → Int → Int → List (S43) → Bool → Option (Int)
 | 0, _, _, _, _, _ => none
 | k + 1, x3, x6, x7, x128000, x128001 => if 0 ≤ x6 then (if x6 < (x128000.length : Int) then (if x7 < (((q00 x128000 x6).f5).length : Int) then (if 0 ≤ x7 then ((clerestoryref1_between.f (rd ((q00 x128000 x6).f5) x7) 0 (wrap64 (x3 - 1))).bind fun t136 => (if t136 = true then (if 0 ≤ (rd ((q00 x128000 x6).f5) x7) then (if (rd ((q00 x128000 x6).f5) x7) < (x128000.length : Int) then (if ((q00 x128000 (rd ((q00 x128000 x6).f5) x7)).f4) = x6 then (if x7 ≤ (((q00 x128000 x6).f5).length : Int) then ((clerestoryref1_placeIn.f k (((q00 x128000 x6).f5).take (x7 : Int).toNat) (rd ((q00 x128000 x6).f5) x7)).bind fun t140 => (clerestoryref1_DocErr.j4 k x3 x6 x7 (rd ((q00 x128000 x6).f5) x7) (decide (t140 ≥ 0)) x128000 x128001)) else (none)) else (clerestoryref1_DocErr.j4 k x3 x6 x7 (rd ((q00 x128000 x6).f5) x7) true x128000 x128001)) else (none)) else (none)) else (clerestoryref1_DocErr.j4 k x3 x6 x7 (rd ((q00 x128000 x6).f5) x7) true x128000 x128001))) else (none)) else (clerestoryref1_DocErr.l1 k x3 (wrap64 (x6 + 1)) x128000 x128001)) else (none)) else (none)
def clerestoryref1_DocErr.j4 : Nat → Int → Int → Int → Int → Bool → List (S43) → Bool → Option (Int)
 | 0, _, _, _, _, _, _, _ => none
 | k + 1, x3, x6, x7, x8, x110, x128000, x128001 => if x110 = true then (some 3) else (if x6 = 0 then (if 0 ≤ x8 then (if x8 < (x128000.length : Int) then (if ((q00 x128000 x8).f0) = 3 then (some 7) else (clerestoryref1_DocErr.l2 k x3 x6 (wrap64 (x7 + 1)) x128000 x128001)) else (none)) else (none)) else (clerestoryref1_DocErr.l2 k x3 x6 (wrap64 (x7 + 1)) x128000 x128001))
def clerestoryref1_DocErr.l3 : Nat → Int → Int → List (S43) → Bool → Option (Int)
 | 0, _, _, _, _ => none
 | k + 1, x3, x9, x128000, x128001 => if x9 < x3 then (if 0 ≤ x9 then (if x9 < (x128000.length : Int) then (if ((q00 x128000 x9).f4) = (-1) then (clerestoryref1_DocErr.l3 k x3 (wrap64 (x9 + 1)) x128000 x128001) else ((clerestoryref1_between.f ((q00 x128000 x9).f4) 0 (wrap64 (x3 - 1))).bind fun t143 => (if t143 = true then (if 0 ≤ ((q00 x128000 x9).f4) then (if ((q00 x128000 x9).f4) < (x128000.length : Int) then ((clerestoryref1_placeIn.f k ((q00 x128000 ((q00 x128000 x9).f4)).f5) x9).bind fun t145 => (if t145 < 0 then (some 3) else (clerestoryref1_DocErr.l3 k x3 (wrap64 (x9 + 1)) x128000 x128001))) else (none)) else (none)) else (some 3)))) else (none)) else (none)) else (if 0 < (x128000.length : Int) then (if ((q00 x128000 0).f4) = (-1) then (clerestoryref1_DocErr.l4 k x3 0 x128000 x128001) else (some 3)) else (none))
def clerestoryref1_DocErr.l4 : Nat → Int → Int → List (S43) → Bool → Option (Int)
 | 0, _, _, _, _ => none
 | k + 1, x3, x11, x128000, x128001 => if x11 < x3 then ((clerestoryref1_Deep.f k x128000 x128001 x11).bind fun t147 => (if t147 < 0 then (some 8) else (if t147 > 40 then (some 2) else (clerestoryref1_DocErr.l4 k x3 (wrap64 (x11 + 1)) x128000 x128001)))) else (some 0)
end
def clerestoryref1_DocErr.f (k : Nat) (l0_0 : List (S43)) (a0_1 : Bool) : Option (Int) := if (l0_0.length : Int) > 200 then (some 2) else (if (l0_0.length : Int) = 0 then (some 3) else (clerestoryref1_DocErr.l0 k (l0_0.length : Int) 0 l0_0 a0_1))
theorem clerestoryref1_DocErr.mono_l : ∀ k, (∀ y0 y1 y2 y3, LeO (clerestoryref1_DocErr.l0 k y0 y1 y2 y3) (clerestoryref1_DocErr.l0 (k + 1) y0 y1 y2 y3)) ∧ (∀ y0 y1 y2 y3 y4, LeO (clerestoryref1_DocErr.j1 k y0 y1 y2 y3 y4) (clerestoryref1_DocErr.j1 (k + 1) y0 y1 y2 y3 y4)) ∧ (∀ y0 y1 y2 y3, LeO (clerestoryref1_DocErr.l1 k y0 y1 y2 y3) (clerestoryref1_DocErr.l1 (k + 1) y0 y1 y2 y3)) ∧ (∀ y0 y1 y2 y3 y4, LeO (clerestoryref1_DocErr.l2 k y0 y1 y2 y3 y4) (clerestoryref1_DocErr.l2 (k + 1) y0 y1 y2 y3 y4)) ∧ (∀ y0 y1 y2 y3 y4 y5 y6, LeO (clerestoryref1_DocErr.j4 k y0 y1 y2 y3 y4 y5 y6) (clerestoryref1_DocErr.j4 (k + 1) y0 y1 y2 y3 y4 y5 y6)) ∧ (∀ y0 y1 y2 y3, LeO (clerestoryref1_DocErr.l3 k y0 y1 y2 y3) (clerestoryref1_DocErr.l3 (k + 1) y0 y1 y2 y3)) ∧ (∀ y0 y1 y2 y3, LeO (clerestoryref1_DocErr.l4 k y0 y1 y2 y3) (clerestoryref1_DocErr.l4 (k + 1) y0 y1 y2 y3))
 | 0 => ⟨fun _ _ _ _ r h => by simp [clerestoryref1_DocErr.l0] at h, fun _ _ _ _ _ r h => by simp [clerestoryref1_DocErr.j1] at h, fun _ _ _ _ r h => by simp [clerestoryref1_DocErr.l1] at h, fun _ _ _ _ _ r h => by simp [clerestoryref1_DocErr.l2] at h, fun _ _ _ _ _ _ _ r h => by simp [clerestoryref1_DocErr.j4] at h, fun _ _ _ _ r h => by simp [clerestoryref1_DocErr.l3] at h, fun _ _ _ _ r h => by simp [clerestoryref1_DocErr.l4] at h⟩
 | k + 1 => by
  obtain ⟨ih0, ih1, ih2, ih3, ih4, ih5, ih6⟩ := clerestoryref1_DocErr.mono_l k
  refine ⟨?_, ?_, ?_, ?_, ?_, ?_, ?_⟩
  all_goals intros
  all_goals (first | unfold clerestoryref1_DocErr.l0 | unfold clerestoryref1_DocErr.j1 | unfold clerestoryref1_DocErr.l1 | unfold clerestoryref1_DocErr.l2 | unfold clerestoryref1_DocErr.j4 | unfold clerestoryref1_DocErr.l3 | unfold clerestoryref1_DocErr.l4)
  all_goals (repeat' first | with_reducible first | apply ih0 | apply ih1 | apply ih2 | apply ih3 | apply ih4 | apply ih5 | apply ih6 | apply clerestoryref1_Deep.mono | apply clerestoryref1_NodeErr.mono | apply clerestoryref1_placeIn.mono | exact LeO.refl _ | exact LeO.none _ | refine LeO.ite ?_ ?_ | refine LeO.bind ?_ (fun _ => ?_) | (first | apply ih0 | apply ih1 | apply ih2 | apply ih3 | apply ih4 | apply ih5 | apply ih6 | apply clerestoryref1_Deep.mono | apply clerestoryref1_NodeErr.mono | apply clerestoryref1_placeIn.mono | exact LeO.none _ | refine LeO.ite ?_ ?_ | refine LeO.bind ?_ (fun _ => ?_)))
theorem clerestoryref1_DocErr.mono : ∀ a0 a1 k, LeO (clerestoryref1_DocErr.f k a0 a1) (clerestoryref1_DocErr.f (k + 1) a0 a1) := by
 intro a0 a1 k
 obtain ⟨ih0, ih1, ih2, ih3, ih4, ih5, ih6⟩ := clerestoryref1_DocErr.mono_l k
 unfold clerestoryref1_DocErr.f
 repeat' first | with_reducible first | apply ih0 | apply ih1 | apply ih2 | apply ih3 | apply ih4 | apply ih5 | apply ih6 | apply clerestoryref1_Deep.mono | apply clerestoryref1_NodeErr.mono | apply clerestoryref1_placeIn.mono | exact LeO.refl _ | exact LeO.none _ | refine LeO.ite ?_ ?_ | refine LeO.bind ?_ (fun _ => ?_) | (first | apply ih0 | apply ih1 | apply ih2 | apply ih3 | apply ih4 | apply ih5 | apply ih6 | apply clerestoryref1_Deep.mono | apply clerestoryref1_NodeErr.mono | apply clerestoryref1_placeIn.mono | exact LeO.none _ | refine LeO.ite ?_ ?_ | refine LeO.bind ?_ (fun _ => ?_))
set_option maxHeartbeats 8000000 in
set_option maxRecDepth 100000 in
theorem clerestoryref1_DocErr.calls (k : Nat) (A0_0 : Option Addr) (c0_0 : Nat) (l0_0 : List (S43)) (a0_1 : Bool) (r : Int) (w : World) (hr0_0 : Kd.C k43 w A0_0 l0_0.length l0_0) (hc0_0 : l0_0.length ≤ c0_0) (h : clerestoryref1_DocErr.f k l0_0 a0_1 = some r) :
 Calls Tryd.prog 17 #[.agg #[.slice A0_0 l0_0.length c0_0, .bool a0_1]] w fun e w' => e = .returned (.int .i64 r) ∧ Below w.heap.size w w' := by
 have hu24 := Tryd.underlying24
 have hu43 := Tryd.underlying43
 have HR0_0 := aS hr0_0
 have HC0_0 := aS hc0_0
 clear hr0_0 hc0_0
 have HB := aS (Below.refl w.heap.size w)
 have H := h; clear h; unfold clerestoryref1_DocErr.f at H
 refine iTN (m := 200) (n := l0_0.length) H rfl rfl ?p2 ?n2 <;> clear H
 case' p2 => intro c2b0 c2b1 H
 case' n2 => intro c2b0 c2b1 H; refine iG H ?p5 ?n5 <;> clear H
 case' p5 => intro c5 H; have c5b0 : ((l0_0.length : Int) == 0) = true := beq_iff_eq.mpr c5; have c5b1 : ((l0_0.length : Int) != 0) = false := bne_eq_false_iff_eq.mpr c5; clear c5
 case' n5 => intro c5 H; have c5b0 : ((l0_0.length : Int) == 0) = false := beq_eq_false_iff_ne.mpr c5; have c5b1 : ((l0_0.length : Int) != 0) = true := bne_iff_ne.mpr c5; have c5b2 : ¬ (l0_0 = []) := fun h_ => c5 (by rw [h_]; rfl)
 case p2 =>
  obtain rfl := Option.some.inj H
  go_enter Tryd.func17, Tryd.ntmps17
  go_wp2_with (first | ((with_reducible refine q07 (N := 1) rfl ?_); refine box0 rfl (N := 1) rfl (cs := #[.slice A0_0 l0_0.length c0_0, .bool a0_1]) (t := 24) zh (z7 HB.out) ?_; clear HB; intro gb127 w3 BK127 GW127 HB; have GE127 := GW127; obtain ⟨hczL_0, hczL_1, hfzL_0, hfzL_1⟩ := bk2 BK127.out))
  go_ret
  exact ⟨by first | rfl | (simp [q05, q04] <;> rfl) | (simp [*, q05, q04] <;> rfl), by repeat (first | (with_reducible first | exact HB.out | apply bA | apply bN | apply bD | refine bS ?_ GE127.out) | exact HB.out)⟩
 case p5 =>
  obtain rfl := Option.some.inj H
  go_enter Tryd.func17, Tryd.ntmps17
  go_wp2_with (first | ((with_reducible refine q07 (N := 1) rfl ?_); refine box0 rfl (N := 1) rfl (cs := #[.slice A0_0 l0_0.length c0_0, .bool a0_1]) (t := 24) zh (z7 HB.out) ?_; clear HB; intro gb127 w6 BK127 GW127 HB; have GE127 := GW127; obtain ⟨hczL_0, hczL_1, hfzL_0, hfzL_1⟩ := bk2 BK127.out))
  go_ret
  exact ⟨by first | rfl | (simp [q05, q04] <;> rfl) | (simp [*, q05, q04] <;> rfl), by repeat (first | (with_reducible first | exact HB.out | apply bA | apply bN | apply bD | refine bS ?_ GE127.out) | exact HB.out)⟩
 case n5 =>
  have H' := aS H
  clear H
  go_enter Tryd.func17, Tryd.ntmps17
  go_wp2_with (first | ((with_reducible refine q07 (N := 1) rfl ?_); refine box0 rfl (N := 1) rfl (cs := #[.slice A0_0 l0_0.length c0_0, .bool a0_1]) (t := 24) zh (z7 HB.out) ?_; clear HB; intro gb127 w8 BK127 GW127 HB; have GE127 := GW127; obtain ⟨hczL_0, hczL_1, hfzL_0, hfzL_1⟩ := bk2 BK127.out))
  go_loopg [4] k (fun kq v4 w' => ∃ (x4_1 : Int), v4 = .int .i64 x4_1 ∧ Aside0 (clerestoryref1_DocErr.l0 kq (l0_0.length : Int) x4_1 l0_0 a0_1 = some r) ∧ Aside0 (kq ≤ k) ∧ Aside0 (w'.heap[gb127]? = some (.cells #[(.slice A0_0 l0_0.length c0_0), .bool a0_1] 24 (0, 0))) ∧ Aside0 (Below w.heap.size w w'))
  case atStart => exact ⟨(0), zi, H', ⟨Nat.le_refl _⟩, ⟨by (with_reducible repeat (first | refine kN ?_ _ | refine kD ?_ | refine kA ?_ _)); exact BK127.out⟩, ⟨by repeat (first | (with_reducible first | exact HB.out | apply bA | apply bN | apply bD | refine bS ?_ GE127.out) | exact HB.out)⟩⟩
  case round =>
   clear H'
   obtain ⟨x4_1, rfl, HA, HK1, BK127, HB⟩ := hrel
   cases gk with
   | zero => exact absurd HA.out (by simp [clerestoryref1_DocErr.l0])
   | succ k1 =>
    have H := HA.out
    clear HA
    simp only [clerestoryref1_DocErr.l0] at H
    refine iT H ?p10 ?n10 <;> clear H
    case' p10 => intro c10b0 H
    case' n10 => intro c10b0 H
    case p10 =>
     have HC11 := aS H
     clear H
     go_upto_region 9 with (fail)
     go_cut [48] (fun v48 wc => ∃ (kq : Nat) (x48_10 : Bool), v48 = .bool x48_10 ∧ Aside0 (clerestoryref1_DocErr.j1 kq (l0_0.length : Int) x4_1 x48_10 l0_0 a0_1 = some r) ∧ Aside0 (kq ≤ k1) ∧ Aside0 (wc.heap[gb127]? = some (.cells #[(.slice A0_0 l0_0.length c0_0), .bool a0_1] 24 (0, 0))) ∧ Aside0 (Below w.heap.size w wc))
     case first =>
      have H := HC11.out
      clear HC11
      refine iE H ?p12 ?n12 <;> clear H
      case' p12 =>
       intro c12b0 c12b1 H
       (first | rw [c12b0] | (simp only [q0d, q0e]; rw [c12b0]) | skip)
       obtain ⟨hczL_0, hczL_1, hfzL_0, hfzL_1⟩ := bk2 BK127.out
       refine iLp H ?_; clear H; intro c13b0 H
       refine iTp H ?_; clear H; intro c14b0 H
       obtain ⟨ad128, A128_2, c128_2, A128_5, c128_5, e128, hx128_0, hx128_1, hx128_2, hx128_3, hx128_4, hx128_5, HC128_2, HR128_2, HC128_5, HR128_5, p128, q128⟩ := q0w HB.out HR0_0.out x4_1 zb zb
       cases e128
       refine iE H ?p15 ?n15 <;> clear H
      case' p15 => intro c15b0 c15b1 H; refine iT H ?p16 ?n16 <;> clear H
      case' p16 => intro c16b0 H
      case' n16 => intro c16b0 H
      case' n15 => intro c15 c15b0 c15b1 H
      case' n12 => intro c12 c12b0 c12b1 H; (first | rw [c12b0] | (simp only [q0d, q0e]; rw [c12b0]) | skip); refine iT H ?p20 ?n20 <;> clear H
      case' p20 => intro c20b0 H; obtain ⟨hczL_0, hczL_1, hfzL_0, hfzL_1⟩ := bk2 BK127.out; refine iLp H ?_; clear H; intro c21b0 H; refine iTp H ?_; clear H; intro c22b0 H
      case' n20 => intro c20b0 H
      case p16 =>
       have H' := aS H
       clear H
       obtain ⟨ad129, A129_2, c129_2, A129_5, c129_5, e129, hx129_0, hx129_1, hx129_2, hx129_3, hx129_4, hx129_5, HC129_2, HR129_2, HC129_5, HR129_5, p129, q129⟩ := q0w HB.out HR0_0.out x4_1 zb zb
       obtain rfl : ad128 = ad129 := (by injection e129)
       have ea_ := Option.some.inj (hx128_2.symm.trans hx129_2)
       injection ea_ with ea_ en_ ec_
       subst ea_
       subst ec_
       clear en_
       have ea_ := Option.some.inj (hx128_5.symm.trans hx129_5)
       injection ea_ with ea_ en_ ec_
       subst ea_
       subst ec_
       clear en_
       go_wp2
       go_meet
       case rel => exact ⟨_, ((((q00 l0_0 x4_1).f0) == 1)), zi, H', ⟨by have := HK1.out; first | omega | exact Nat.le_refl _⟩, ⟨by (with_reducible repeat (first | refine kN ?_ _ | refine kD ?_ | refine kA ?_ _)); exact BK127.out⟩, ⟨by repeat (first | (with_reducible first | exact HB.out | apply bA | apply bN | apply bD | refine bS ?_ GE127.out) | exact HB.out)⟩⟩
      case n16|n15|n20 =>
       have H' := aS H
       clear H
       go_wp2
       go_meet
       case rel => exact ⟨_, _, zi, H', ⟨by have := HK1.out; first | omega | exact Nat.le_refl _⟩, ⟨by (with_reducible repeat (first | refine kN ?_ _ | refine kD ?_ | refine kA ?_ _)); exact BK127.out⟩, ⟨by repeat (first | (with_reducible first | exact HB.out | apply bA | apply bN | apply bD | refine bS ?_ GE127.out) | exact HB.out)⟩⟩
      case p20 =>
       have H' := aS H
       clear H
       obtain ⟨ad130, A130_2, c130_2, A130_5, c130_5, e130, hx130_0, hx130_1, hx130_2, hx130_3, hx130_4, hx130_5, HC130_2, HR130_2, HC130_5, HR130_5, p130, q130⟩ := q0w HB.out HR0_0.out x4_1 zb zb
       cases e130
       go_wp2
       go_meet
       case rel => exact ⟨_, ((((q00 l0_0 x4_1).f0) == 1)), zi, H', ⟨by have := HK1.out; first | omega | exact Nat.le_refl _⟩, ⟨by (with_reducible repeat (first | refine kN ?_ _ | refine kD ?_ | refine kA ?_ _)); exact BK127.out⟩, ⟨by repeat (first | (with_reducible first | exact HB.out | apply bA | apply bN | apply bD | refine bS ?_ GE127.out) | exact HB.out)⟩⟩
     case rest =>
      clear HC11
      obtain ⟨kq, x48_10, rfl, HA, HJ10, BK127, HB⟩ := hcut
      cases kq with
      | zero => exact absurd HA.out (by simp [clerestoryref1_DocErr.j1])
      | succ kj10 =>
       have H := HA.out
       clear HA
       simp only [clerestoryref1_DocErr.j1] at H
       refine iV H ?p24 ?n24 <;> clear H
       case' p24 => intro c24 H; subst c24
       case' n24 =>
        intro c24 H; subst c24
        obtain ⟨hczL_0, hczL_1, hfzL_0, hfzL_1⟩ := bk2 BK127.out
        refine iLp H ?_; clear H; intro c25b0 H
        refine iTp H ?_; clear H; intro c26b0 H
        replace H := iB H
        obtain ⟨t132, A27, H⟩ := H
        obtain ⟨ad131, A131_2, c131_2, A131_5, c131_5, e131, hx131_0, hx131_1, hx131_2, hx131_3, hx131_4, hx131_5, HC131_2, HR131_2, HC131_5, HR131_5, p131, q131⟩ := q0w HB.out HR0_0.out x4_1 zb zb
        cases e131
        refine iE H ?p28 ?n28 <;> clear H
       case' p28 => intro c28b0 c28b1 H
       case' n28 => intro c28 c28b0 c28b1 H
       case p24 =>
        obtain rfl := Option.some.inj H
        go_wp2
        go_ret
        exact ⟨by first | rfl | (simp [q05, q04] <;> rfl) | (simp [*, q05, q04] <;> rfl), by repeat (first | (with_reducible first | exact HB.out | apply bA | apply bN | apply bD | refine bS ?_ GE127.out) | exact HB.out)⟩
       case p28 =>
        have H' := aS H
        clear H
        go_wp2_with (first | ((with_reducible refine q0j (f := 72) rfl ?_); refine q1d (some 54) rfl rfl Tryd.func72 (by kernel_rfl) rfl #[.agg #[.int .i64 ((q00 l0_0 x4_1).f0), .string ((q00 l0_0 x4_1).f1), .slice A131_2 ((q00 l0_0 x4_1).f2).length c131_2, .string ((q00 l0_0 x4_1).f3), .int .i64 ((q00 l0_0 x4_1).f4), .slice A131_5 ((q00 l0_0 x4_1).f5).length c131_5]] rfl zc ?_; (with_reducible refine (clerestoryref1_NodeErr.calls kj10 ((q00 l0_0 x4_1).f0) ((q00 l0_0 x4_1).f1) _ _ ((q00 l0_0 x4_1).f2) ((q00 l0_0 x4_1).f3) ((q00 l0_0 x4_1).f4) _ _ ((q00 l0_0 x4_1).f5) t132 _ ?side1 ?side2 ?side3 ?side4 A27.out).mono ?_); (case side1 => repeat (first | exact (Kd.C_below HR131_2.out HB.out) | (with_reducible refine cA ?_ _) | (with_reducible refine cN ?_ _) | (with_reducible refine cD ?_))); (case side2 => exact HC131_2.out); (case side3 => repeat (first | exact (Kd.C_below HR131_5.out HB.out) | (with_reducible refine cA ?_ _) | (with_reducible refine cN ?_ _) | (with_reducible refine cD ?_))); (case side4 => exact HC131_5.out); rintro e w30 ⟨rfl, hb⟩; refine ⟨_, rfl, ?_⟩; replace BK127 := aS (q02 (g := gb127) (o := .cells #[.slice (some ad131) l0_0.length c0_0, .bool a0_1] 24 (0, 0)) (za BK127.out) hb); replace HB := aS (q01 (z6 HB.out GE127.out) hb); (try clear hb); (try clear hb2); (try clear hk); (try clear hi)))
        go_roundg kj10
        case measure => have := HK1.out; have := HJ10.out; omega
        case rel => exact ⟨(wrap64 (x4_1 + 1)), zi, H', ⟨by have := HK1.out; have := HJ10.out; omega⟩, ⟨by (with_reducible repeat (first | refine kN ?_ _ | refine kD ?_ | refine kA ?_ _)); exact BK127.out⟩, ⟨by repeat (first | (with_reducible first | exact HB.out | apply bA | apply bN | apply bD | refine bS ?_ GE127.out) | exact HB.out)⟩⟩
       case n28 =>
        obtain rfl := Option.some.inj H
        go_wp2_with (first | ((with_reducible refine q0j (f := 72) rfl ?_); refine q1d (some 54) rfl rfl Tryd.func72 (by kernel_rfl) rfl #[.agg #[.int .i64 ((q00 l0_0 x4_1).f0), .string ((q00 l0_0 x4_1).f1), .slice A131_2 ((q00 l0_0 x4_1).f2).length c131_2, .string ((q00 l0_0 x4_1).f3), .int .i64 ((q00 l0_0 x4_1).f4), .slice A131_5 ((q00 l0_0 x4_1).f5).length c131_5]] rfl zc ?_; (with_reducible refine (clerestoryref1_NodeErr.calls kj10 ((q00 l0_0 x4_1).f0) ((q00 l0_0 x4_1).f1) _ _ ((q00 l0_0 x4_1).f2) ((q00 l0_0 x4_1).f3) ((q00 l0_0 x4_1).f4) _ _ ((q00 l0_0 x4_1).f5) t132 _ ?side1 ?side2 ?side3 ?side4 A27.out).mono ?_); (case side1 => repeat (first | exact (Kd.C_below HR131_2.out HB.out) | (with_reducible refine cA ?_ _) | (with_reducible refine cN ?_ _) | (with_reducible refine cD ?_))); (case side2 => exact HC131_2.out); (case side3 => repeat (first | exact (Kd.C_below HR131_5.out HB.out) | (with_reducible refine cA ?_ _) | (with_reducible refine cN ?_ _) | (with_reducible refine cD ?_))); (case side4 => exact HC131_5.out); rintro e w32 ⟨rfl, hb⟩; refine ⟨_, rfl, ?_⟩; replace BK127 := aS (q02 (g := gb127) (o := .cells #[.slice (some ad131) l0_0.length c0_0, .bool a0_1] 24 (0, 0)) (za BK127.out) hb); replace HB := aS (q01 (z6 HB.out GE127.out) hb); (try clear hb); (try clear hb2); (try clear hk); (try clear hi)))
        go_ret
        exact ⟨by first | rfl | (simp [q05, q04] <;> rfl) | (simp [*, q05, q04] <;> rfl), by repeat (first | (with_reducible first | exact HB.out | apply bA | apply bN | apply bD | refine bS ?_ GE127.out) | exact HB.out)⟩
    case n10 =>
     have H' := aS H
     clear H
     go_wp2
     go_loopg [6] k1 (fun kq v6 w' => ∃ (x6_2 : Int), v6 = .int .i64 x6_2 ∧ Aside0 (clerestoryref1_DocErr.l1 kq (l0_0.length : Int) x6_2 l0_0 a0_1 = some r) ∧ Aside0 (kq ≤ k1) ∧ Aside0 (w'.heap[gb127]? = some (.cells #[(.slice A0_0 l0_0.length c0_0), .bool a0_1] 24 (0, 0))) ∧ Aside0 (Below w.heap.size w w'))
     case atStart => exact ⟨(0), zi, H', ⟨Nat.le_refl _⟩, ⟨by (with_reducible repeat (first | refine kN ?_ _ | refine kD ?_ | refine kA ?_ _)); exact BK127.out⟩, ⟨by repeat (first | (with_reducible first | exact HB.out | apply bA | apply bN | apply bD | refine bS ?_ GE127.out) | exact HB.out)⟩⟩
     case round =>
      clear H'
      obtain ⟨x6_2, rfl, HA, HK2, BK127, HB⟩ := hrel
      cases gk with
      | zero => exact absurd HA.out (by simp [clerestoryref1_DocErr.l1])
      | succ k2 =>
       have H := HA.out
       clear HA
       simp only [clerestoryref1_DocErr.l1] at H
       refine iT H ?p33 ?n33 <;> clear H
       case' p33 => intro c33b0 H
       case' n33 => intro c33b0 H
       case p33 =>
        have H' := aS H
        clear H
        go_wp2
        go_loopg [7] k2 (fun kq v7 w' => ∃ (x7_3 : Int), v7 = .int .i64 x7_3 ∧ Aside0 (clerestoryref1_DocErr.l2 kq (l0_0.length : Int) x6_2 x7_3 l0_0 a0_1 = some r) ∧ Aside0 (kq ≤ k2) ∧ Aside0 (w'.heap[gb127]? = some (.cells #[(.slice A0_0 l0_0.length c0_0), .bool a0_1] 24 (0, 0))) ∧ Aside0 (Below w.heap.size w w'))
        case atStart => exact ⟨(0), zi, H', ⟨Nat.le_refl _⟩, ⟨by (with_reducible repeat (first | refine kN ?_ _ | refine kD ?_ | refine kA ?_ _)); exact BK127.out⟩, ⟨by repeat (first | (with_reducible first | exact HB.out | apply bA | apply bN | apply bD | refine bS ?_ GE127.out) | exact HB.out)⟩⟩
        case round =>
         clear H'
         obtain ⟨x7_3, rfl, HA, HK3, BK127, HB⟩ := hrel
         cases gk with
         | zero => exact absurd HA.out (by simp [clerestoryref1_DocErr.l2])
         | succ k3 =>
          have H := HA.out
          clear HA
          simp only [clerestoryref1_DocErr.l2] at H
          refine iLp H ?_; clear H; intro c34b0 H
          refine iTp H ?_; clear H; intro c35b0 H
          refine iT H ?p36 ?n36 <;> clear H
          case' p36 => intro c36b0 H; refine iLp H ?_; clear H; intro c37b0 H
          case' n36 => intro c36b0 H
          case p36 =>
           have HC38 := aS H
           clear H
           obtain ⟨hczL_0, hczL_1, hfzL_0, hfzL_1⟩ := bk2 BK127.out
           obtain ⟨ad133, A133_2, c133_2, A133_5, c133_5, e133, hx133_0, hx133_1, hx133_2, hx133_3, hx133_4, hx133_5, HC133_2, HR133_2, HC133_5, HR133_5, p133, q133⟩ := q0w HB.out HR0_0.out x6_2 zb zb
           cases e133
           obtain ⟨ad134, A134_2, c134_2, A134_5, c134_5, e134, hx134_0, hx134_1, hx134_2, hx134_3, hx134_4, hx134_5, HC134_2, HR134_2, HC134_5, HR134_5, p134, q134⟩ := q0w HB.out HR0_0.out x6_2 zb zb
           obtain rfl : ad133 = ad134 := (by injection e134)
           have ea_ := Option.some.inj (hx133_2.symm.trans hx134_2)
           injection ea_ with ea_ en_ ec_
           subst ea_
           subst ec_
           clear en_
           have ea_ := Option.some.inj (hx133_5.symm.trans hx134_5)
           injection ea_ with ea_ en_ ec_
           subst ea_
           subst ec_
           clear en_
           obtain ⟨ad135, e135, hx135_0, p135, q135⟩ := atIB HB.out HR134_5.out x7_3 zb zb
           cases e135
           go_upto_region 21 with (fail)
           go_cut [110] (fun v110 wc => ∃ (kq : Nat) (x110_37 : Bool), v110 = .bool x110_37 ∧ Aside0 (clerestoryref1_DocErr.j4 kq (l0_0.length : Int) x6_2 x7_3 (rd ((q00 l0_0 x6_2).f5) x7_3) x110_37 l0_0 a0_1 = some r) ∧ Aside0 (kq ≤ k3) ∧ Aside0 (wc.heap[gb127]? = some (.cells #[(.slice (some ad133) l0_0.length c0_0), .bool a0_1] 24 (0, 0))) ∧ Aside0 (Below w.heap.size w wc))
           case first =>
            have H := HC38.out
            clear HC38
            replace H := iB H
            obtain ⟨t136, A40, H⟩ := H
            refine iV H ?p41 ?n41 <;> clear H
            case' p41 => intro c41 H; subst c41; refine iLp H ?_; clear H; intro c42b0 H; (first | rw [c42b0] | (simp only [q0d, q0e]; rw [c42b0]) | skip); refine iTp H ?_; clear H; intro c43b0 H; refine iE H ?p44 ?n44 <;> clear H
            case' p44 => intro c44b0 c44b1 H; have c45b0 := eq_true (od zb : 0 ≤ x7_3); refine iGp H ?_; clear H; intro c46 H; have c46b0 := eq_true c46; have c46b1 : decide (x7_3 ≤ (((q00 l0_0 x6_2).f5).length : Int)) = true := decide_eq_true c46; clear c46
            case' n44 => intro c44 c44b0 c44b1 H
            case' n41 => intro c41 H; subst c41
            case p44 =>
             replace H := iB H
             obtain ⟨t140, A47, H⟩ := H
             have H' := aS H
             clear H
             go_wp2_with (first | ((with_reducible refine q0j (f := 73) rfl ?_); refine q1d (some 86) rfl rfl Tryd.func73 (by kernel_rfl) rfl #[.int .i64 (rd ((q00 l0_0 x6_2).f5) x7_3), .int .i64 0, .int .i64 (wrap64 ((l0_0.length : Int) - 1))] rfl zc ?_; (with_reducible refine (clerestoryref1_between.calls (rd ((q00 l0_0 x6_2).f5) x7_3) 0 (wrap64 ((l0_0.length : Int) - 1)) true _ A40.out).mono ?_); rintro e w' ⟨rfl, ⟨nd, rfl⟩⟩; refine ⟨_, rfl, ?_⟩; obtain ⟨hczL_0, hczL_1, hfzL_0, hfzL_1⟩ := bk2 BK127.out; obtain ⟨ad137, A137_2, c137_2, A137_5, c137_5, e137, hx137_0, hx137_1, hx137_2, hx137_3, hx137_4, hx137_5, HC137_2, HR137_2, HC137_5, HR137_5, p137, q137⟩ := q0w HB.out HR0_0.out (rd ((q00 l0_0 x6_2).f5) x7_3) zb zb; obtain rfl : ad133 = ad137 := (by injection e137); obtain ⟨ad138, A138_2, c138_2, A138_5, c138_5, e138, hx138_0, hx138_1, hx138_2, hx138_3, hx138_4, hx138_5, HC138_2, HR138_2, HC138_5, HR138_5, p138, q138⟩ := q0w HB.out HR0_0.out x6_2 zb zb; obtain rfl : ad133 = ad138 := (by injection e138); obtain ⟨i049, hi049, _, hsz49, _⟩ := info_parts info3; obtain ⟨hcut49, hA49, hC49⟩ := print_take_of (P := Tryd.prog) (Value.int .i64) 0 31 3 .i64 Tryd.underlying31 hi049 hsz49 A138_5 c138_5 ((q00 l0_0 x6_2).f5) x7_3 (od zb) (od zb) HC138_5.out; have HR139 := aS (Kd.C_of_reads (h1 := fun _ => rfl) (hA49 _ (Kd.reads_of_C HR138_5.out))); have HC139 := aS hC49; clear hA49 hC49 hi049 hsz49; obtain ⟨rfl, rfl⟩ : A138_5 = _ ∧ c138_5 = _ := (by have e_ := hx138_5.symm.trans hx134_5; injection e_ with e_; injection e_ with e1_ _ e2_; exact ⟨e1_, e2_⟩); have HSL139 := aS (show (((q00 l0_0 x6_2).f5).take (x7_3 : Int).toNat).length = x7_3.toNat from (by rw [List.length_take]; have h_ : (x7_3 : Int) ≤ (((q00 l0_0 x6_2).f5).length : Int) := od zb; omega))) | (go_at_call 74; (try rw [← HSL139.out]); (with_reducible refine (clerestoryref1_placeIn.calls k3 _ _ (((q00 l0_0 x6_2).f5).take (x7_3 : Int).toNat) (rd ((q00 l0_0 x6_2).f5) x7_3) t140 _ ?side1 ?side2 A47.out).mono ?_); (case side1 => repeat (first | exact (Kd.C_below HR139.out (z6 HB.out GE127.out)) | (with_reducible refine cA ?_ _) | (with_reducible refine cN ?_ _) | (with_reducible refine cD ?_))); (case side2 => exact HC139.out); rintro e w' ⟨rfl, ⟨nd, rfl⟩⟩))
             go_meet
             case rel => exact ⟨_, _, zi, H', ⟨by have := HK1.out; have := HK2.out; have := HK3.out; first | omega | exact Nat.le_refl _⟩, ⟨by (with_reducible repeat (first | refine kN ?_ _ | refine kD ?_ | refine kA ?_ _)); exact BK127.out⟩, ⟨by repeat (first | (with_reducible first | exact HB.out | apply bA | apply bN | apply bD | refine bS ?_ GE127.out) | exact HB.out)⟩⟩
            case n44 =>
             have H' := aS H
             clear H
             go_wp2_with (first | ((with_reducible refine q0j (f := 73) rfl ?_); refine q1d (some 86) rfl rfl Tryd.func73 (by kernel_rfl) rfl #[.int .i64 (rd ((q00 l0_0 x6_2).f5) x7_3), .int .i64 0, .int .i64 (wrap64 ((l0_0.length : Int) - 1))] rfl zc ?_; (with_reducible refine (clerestoryref1_between.calls (rd ((q00 l0_0 x6_2).f5) x7_3) 0 (wrap64 ((l0_0.length : Int) - 1)) true _ A40.out).mono ?_); rintro e w' ⟨rfl, ⟨nd, rfl⟩⟩; refine ⟨_, rfl, ?_⟩; obtain ⟨hczL_0, hczL_1, hfzL_0, hfzL_1⟩ := bk2 BK127.out; obtain ⟨ad137, A137_2, c137_2, A137_5, c137_5, e137, hx137_0, hx137_1, hx137_2, hx137_3, hx137_4, hx137_5, HC137_2, HR137_2, HC137_5, HR137_5, p137, q137⟩ := q0w HB.out HR0_0.out (rd ((q00 l0_0 x6_2).f5) x7_3) zb zb; obtain rfl : ad133 = ad137 := (by injection e137)))
             go_meet
             case rel => exact ⟨_, _, zi, H', ⟨by have := HK1.out; have := HK2.out; have := HK3.out; first | omega | exact Nat.le_refl _⟩, ⟨by (with_reducible repeat (first | refine kN ?_ _ | refine kD ?_ | refine kA ?_ _)); exact BK127.out⟩, ⟨by repeat (first | (with_reducible first | exact HB.out | apply bA | apply bN | apply bD | refine bS ?_ GE127.out) | exact HB.out)⟩⟩
            case n41 =>
             have H' := aS H
             clear H
             go_wp2_with (first | ((with_reducible refine q0j (f := 73) rfl ?_); refine q1d (some 86) rfl rfl Tryd.func73 (by kernel_rfl) rfl #[.int .i64 (rd ((q00 l0_0 x6_2).f5) x7_3), .int .i64 0, .int .i64 (wrap64 ((l0_0.length : Int) - 1))] rfl zc ?_; (with_reducible refine (clerestoryref1_between.calls (rd ((q00 l0_0 x6_2).f5) x7_3) 0 (wrap64 ((l0_0.length : Int) - 1)) false _ A40.out).mono ?_); rintro e w' ⟨rfl, ⟨nd, rfl⟩⟩; refine ⟨_, rfl, ?_⟩))
             go_meet
             case rel => exact ⟨_, _, zi, H', ⟨by have := HK1.out; have := HK2.out; have := HK3.out; first | omega | exact Nat.le_refl _⟩, ⟨by (with_reducible repeat (first | refine kN ?_ _ | refine kD ?_ | refine kA ?_ _)); exact BK127.out⟩, ⟨by repeat (first | (with_reducible first | exact HB.out | apply bA | apply bN | apply bD | refine bS ?_ GE127.out) | exact HB.out)⟩⟩
           case rest =>
            clear HC38
            obtain ⟨kq, x110_37, rfl, HA, HJ37, BK127, HB⟩ := hcut
            cases kq with
            | zero => exact absurd HA.out (by simp [clerestoryref1_DocErr.j4])
            | succ kj37 =>
             have H := HA.out
             clear HA
             simp only [clerestoryref1_DocErr.j4] at H
             refine iV H ?p51 ?n51 <;> clear H
             case' p51 => intro c51 H; subst c51
             case' n51 => intro c51 H; subst c51; refine iE H ?p52 ?n52 <;> clear H
             case' p52 =>
              intro c52b0 c52b1 H
              obtain ⟨hczL_0, hczL_1, hfzL_0, hfzL_1⟩ := bk2 BK127.out
              refine iLp H ?_; clear H; intro c53b0 H
              refine iTp H ?_; clear H; intro c54b0 H
              obtain ⟨ad141, A141_2, c141_2, A141_5, c141_5, e141, hx141_0, hx141_1, hx141_2, hx141_3, hx141_4, hx141_5, HC141_2, HR141_2, HC141_5, HR141_5, p141, q141⟩ := q0w HB.out HR0_0.out (rd ((q00 l0_0 x6_2).f5) x7_3) zb zb
              obtain rfl : ad133 = ad141 := (by injection e141)
              refine iE H ?p55 ?n55 <;> clear H
             case' p55 => intro c55b0 c55b1 H
             case' n55 => intro c55 c55b0 c55b1 H
             case' n52 => intro c52 c52b0 c52b1 H
             case p51|p55 =>
              obtain rfl := Option.some.inj H
              go_wp2
              go_ret
              exact ⟨by first | rfl | (simp [q05, q04] <;> rfl) | (simp [*, q05, q04] <;> rfl), by repeat (first | (with_reducible first | exact HB.out | apply bA | apply bN | apply bD | refine bS ?_ GE127.out) | exact HB.out)⟩
             case n55|n52 =>
              have H' := aS H
              clear H
              go_wp2
              go_roundg kj37
              case measure => have := HK1.out; have := HK2.out; have := HK3.out; have := HJ37.out; omega
              case rel => exact ⟨(wrap64 (x7_3 + 1)), zi, H', ⟨by have := HK1.out; have := HK2.out; have := HK3.out; have := HJ37.out; omega⟩, ⟨by (with_reducible repeat (first | refine kN ?_ _ | refine kD ?_ | refine kA ?_ _)); exact BK127.out⟩, ⟨by repeat (first | (with_reducible first | exact HB.out | apply bA | apply bN | apply bD | refine bS ?_ GE127.out) | exact HB.out)⟩⟩
          case n36 =>
           have H' := aS H
           clear H
           obtain ⟨hczL_0, hczL_1, hfzL_0, hfzL_1⟩ := bk2 BK127.out
           obtain ⟨ad133, A133_2, c133_2, A133_5, c133_5, e133, hx133_0, hx133_1, hx133_2, hx133_3, hx133_4, hx133_5, HC133_2, HR133_2, HC133_5, HR133_5, p133, q133⟩ := q0w HB.out HR0_0.out x6_2 zb zb
           cases e133
           go_wp2
           go_roundg k3
           case measure => have := HK1.out; have := HK2.out; have := HK3.out; omega
           case rel => exact ⟨(wrap64 (x6_2 + 1)), zi, H', ⟨by have := HK1.out; have := HK2.out; have := HK3.out; omega⟩, ⟨by (with_reducible repeat (first | refine kN ?_ _ | refine kD ?_ | refine kA ?_ _)); exact BK127.out⟩, ⟨by repeat (first | (with_reducible first | exact HB.out | apply bA | apply bN | apply bD | refine bS ?_ GE127.out) | exact HB.out)⟩⟩
       case n33 =>
        have H' := aS H
        clear H
        go_wp2
        go_loopg [9] k2 (fun kq v9 w' => ∃ (x9_3 : Int), v9 = .int .i64 x9_3 ∧ Aside0 (clerestoryref1_DocErr.l3 kq (l0_0.length : Int) x9_3 l0_0 a0_1 = some r) ∧ Aside0 (kq ≤ k2) ∧ Aside0 (w'.heap[gb127]? = some (.cells #[(.slice A0_0 l0_0.length c0_0), .bool a0_1] 24 (0, 0))) ∧ Aside0 (Below w.heap.size w w'))
        case atStart => exact ⟨(0), zi, H', ⟨Nat.le_refl _⟩, ⟨by (with_reducible repeat (first | refine kN ?_ _ | refine kD ?_ | refine kA ?_ _)); exact BK127.out⟩, ⟨by repeat (first | (with_reducible first | exact HB.out | apply bA | apply bN | apply bD | refine bS ?_ GE127.out) | exact HB.out)⟩⟩
        case round =>
         clear H'
         obtain ⟨x9_3, rfl, HA, HK3, BK127, HB⟩ := hrel
         cases gk with
         | zero => exact absurd HA.out (by simp [clerestoryref1_DocErr.l3])
         | succ k3 =>
          have H := HA.out
          clear HA
          simp only [clerestoryref1_DocErr.l3] at H
          obtain ⟨hczL_0, hczL_1, hfzL_0, hfzL_1⟩ := bk2 BK127.out
          refine iT H ?p59 ?n59 <;> clear H
          case' p59 => intro c59b0 H; refine iLp H ?_; clear H; intro c60b0 H; refine iTp H ?_; clear H; intro c61b0 H; refine iE H ?p62 ?n62 <;> clear H
          case' p62 => intro c62b0 c62b1 H
          case' n62 => intro c62 c62b0 c62b1 H; replace H := iB H; obtain ⟨t143, A64, H⟩ := H; refine iV H ?p65 ?n65 <;> clear H
          case' p65 =>
           intro c65 H; subst c65
           refine iLp H ?_; clear H; intro c66b0 H
           refine iTp H ?_; clear H; intro c67b0 H
           replace H := iB H
           obtain ⟨t145, A68, H⟩ := H
           obtain ⟨ad142, A142_2, c142_2, A142_5, c142_5, e142, hx142_0, hx142_1, hx142_2, hx142_3, hx142_4, hx142_5, HC142_2, HR142_2, HC142_5, HR142_5, p142, q142⟩ := q0w HB.out HR0_0.out x9_3 zb zb
           cases e142
           refine iT H ?p69 ?n69 <;> clear H
          case' p69 => intro c69b0 H
          case' n69 => intro c69b0 H
          case' n65 => intro c65 H; subst c65
          case' n59 =>
           intro c59b0 H
           refine iTNp (m := 0) (n := l0_0.length) H rfl rfl ?_; clear H; intro c73b0 c73b1 H
           have p146 : 0 ≤ (0 : Int) := (by omega)
           have q146 : 0 < (l0_0.length : Int) := od zb
           obtain ⟨ad146, A146_2, c146_2, A146_5, c146_5, e146, hx146_0, hx146_1, hx146_2, hx146_3, hx146_4, hx146_5, hl146_2, hi146_2, hl146_5, hi146_5⟩ := at_T43 HR0_0.out 0 p146 q146
           cases e146
           refine iE H ?p74 ?n74 <;> clear H
          case' p74 => intro c74b0 c74b1 H
          case' n74 => intro c74 c74b0 c74b1 H
          case p62 =>
           have H' := aS H
           clear H
           obtain ⟨ad142, A142_2, c142_2, A142_5, c142_5, e142, hx142_0, hx142_1, hx142_2, hx142_3, hx142_4, hx142_5, HC142_2, HR142_2, HC142_5, HR142_5, p142, q142⟩ := q0w HB.out HR0_0.out x9_3 zb zb
           cases e142
           go_wp2
           go_roundg k3
           case measure => have := HK1.out; have := HK2.out; have := HK3.out; omega
           case rel => exact ⟨(wrap64 (x9_3 + 1)), zi, H', ⟨by have := HK1.out; have := HK2.out; have := HK3.out; omega⟩, ⟨by (with_reducible repeat (first | refine kN ?_ _ | refine kD ?_ | refine kA ?_ _)); exact BK127.out⟩, ⟨by repeat (first | (with_reducible first | exact HB.out | apply bA | apply bN | apply bD | refine bS ?_ GE127.out) | exact HB.out)⟩⟩
          case p69 =>
           obtain rfl := Option.some.inj H
           go_wp2_with (first | (go_at_call 73; (with_reducible refine (clerestoryref1_between.calls ((q00 l0_0 x9_3).f4) 0 (wrap64 ((l0_0.length : Int) - 1)) true _ A64.out).mono ?_); rintro e w' ⟨rfl, ⟨nd, rfl⟩⟩; obtain ⟨ad144, A144_2, c144_2, A144_5, c144_5, e144, hx144_0, hx144_1, hx144_2, hx144_3, hx144_4, hx144_5, HC144_2, HR144_2, HC144_5, HR144_5, p144, q144⟩ := q0w HB.out HR0_0.out ((q00 l0_0 x9_3).f4) zb zb; obtain rfl : ad142 = ad144 := (by injection e144)) | (go_at_call 74; (with_reducible refine (clerestoryref1_placeIn.calls k3 _ _ ((q00 l0_0 ((q00 l0_0 x9_3).f4)).f5) x9_3 t145 _ ?side1 ?side2 A68.out).mono ?_); (case side1 => repeat (first | exact (Kd.C_below HR144_5.out (z6 HB.out GE127.out)) | (with_reducible refine cA ?_ _) | (with_reducible refine cN ?_ _) | (with_reducible refine cD ?_))); (case side2 => exact HC144_5.out); rintro e w' ⟨rfl, ⟨nd, rfl⟩⟩))
           go_ret
           exact ⟨by first | rfl | (simp [q05, q04] <;> rfl) | (simp [*, q05, q04] <;> rfl), by repeat (first | (with_reducible first | exact HB.out | apply bA | apply bN | apply bD | refine bS ?_ GE127.out) | exact HB.out)⟩
          case n69 =>
           have H' := aS H
           clear H
           go_wp2_with (first | (go_at_call 73; (with_reducible refine (clerestoryref1_between.calls ((q00 l0_0 x9_3).f4) 0 (wrap64 ((l0_0.length : Int) - 1)) true _ A64.out).mono ?_); rintro e w' ⟨rfl, ⟨nd, rfl⟩⟩; obtain ⟨ad144, A144_2, c144_2, A144_5, c144_5, e144, hx144_0, hx144_1, hx144_2, hx144_3, hx144_4, hx144_5, HC144_2, HR144_2, HC144_5, HR144_5, p144, q144⟩ := q0w HB.out HR0_0.out ((q00 l0_0 x9_3).f4) zb zb; obtain rfl : ad142 = ad144 := (by injection e144)) | (go_at_call 74; (with_reducible refine (clerestoryref1_placeIn.calls k3 _ _ ((q00 l0_0 ((q00 l0_0 x9_3).f4)).f5) x9_3 t145 _ ?side1 ?side2 A68.out).mono ?_); (case side1 => repeat (first | exact (Kd.C_below HR144_5.out (z6 HB.out GE127.out)) | (with_reducible refine cA ?_ _) | (with_reducible refine cN ?_ _) | (with_reducible refine cD ?_))); (case side2 => exact HC144_5.out); rintro e w' ⟨rfl, ⟨nd, rfl⟩⟩))
           go_roundg k3
           case measure => have := HK1.out; have := HK2.out; have := HK3.out; omega
           case rel => exact ⟨(wrap64 (x9_3 + 1)), zi, H', ⟨by have := HK1.out; have := HK2.out; have := HK3.out; omega⟩, ⟨by (with_reducible repeat (first | refine kN ?_ _ | refine kD ?_ | refine kA ?_ _)); exact BK127.out⟩, ⟨by repeat (first | (with_reducible first | exact HB.out | apply bA | apply bN | apply bD | refine bS ?_ GE127.out) | exact HB.out)⟩⟩
          case n65 =>
           obtain rfl := Option.some.inj H
           obtain ⟨ad142, A142_2, c142_2, A142_5, c142_5, e142, hx142_0, hx142_1, hx142_2, hx142_3, hx142_4, hx142_5, HC142_2, HR142_2, HC142_5, HR142_5, p142, q142⟩ := q0w HB.out HR0_0.out x9_3 zb zb
           cases e142
           go_wp2_with (first | (go_at_call 73; (with_reducible refine (clerestoryref1_between.calls ((q00 l0_0 x9_3).f4) 0 (wrap64 ((l0_0.length : Int) - 1)) false _ A64.out).mono ?_); rintro e w' ⟨rfl, ⟨nd, rfl⟩⟩))
           go_ret
           exact ⟨by first | rfl | (simp [q05, q04] <;> rfl) | (simp [*, q05, q04] <;> rfl), by repeat (first | (with_reducible first | exact HB.out | apply bA | apply bN | apply bD | refine bS ?_ GE127.out) | exact HB.out)⟩
          case p74 =>
           have H' := aS H
           clear H
           have qi146 : (0 < l0_0.length) = True := eq_true (by omega)
           (try rw [show ((0 : Int)).toNat = 0 from rfl] at hx146_0)
           (try rw [show 0 * 6 = 0 from rfl] at hx146_0)
           (try rw [Addr.add_zero'] at hx146_0)
           (try rw [show ((0 : Int)).toNat = 0 from rfl] at hx146_1)
           (try rw [show 0 * 6 = 0 from rfl] at hx146_1)
           (try rw [Addr.add_zero'] at hx146_1)
           (try rw [show ((0 : Int)).toNat = 0 from rfl] at hx146_2)
           (try rw [show 0 * 6 = 0 from rfl] at hx146_2)
           (try rw [Addr.add_zero'] at hx146_2)
           (try rw [show ((0 : Int)).toNat = 0 from rfl] at hx146_3)
           (try rw [show 0 * 6 = 0 from rfl] at hx146_3)
           (try rw [Addr.add_zero'] at hx146_3)
           (try rw [show ((0 : Int)).toNat = 0 from rfl] at hx146_4)
           (try rw [show 0 * 6 = 0 from rfl] at hx146_4)
           (try rw [Addr.add_zero'] at hx146_4)
           (try rw [show ((0 : Int)).toNat = 0 from rfl] at hx146_5)
           (try rw [show 0 * 6 = 0 from rfl] at hx146_5)
           (try rw [Addr.add_zero'] at hx146_5)
           replace hx146_0 := q0b HB.out hx146_0
           replace hx146_1 := q0b HB.out hx146_1
           replace hx146_2 := q0b HB.out hx146_2
           replace hx146_3 := q0b HB.out hx146_3
           replace hx146_4 := q0b HB.out hx146_4
           replace hx146_5 := q0b HB.out hx146_5
           have HR146_2 := aS hi146_2
           have HC146_2 := aS hl146_2
           clear hi146_2 hl146_2
           have HR146_5 := aS hi146_5
           have HC146_5 := aS hl146_5
           clear hi146_5 hl146_5
           replace p146 := eq_true p146
           replace q146 := eq_true q146
           go_wp2
           go_loopg [11] k3 (fun kq v11 w' => ∃ (x11_4 : Int), v11 = .int .i64 x11_4 ∧ Aside0 (clerestoryref1_DocErr.l4 kq (l0_0.length : Int) x11_4 l0_0 a0_1 = some r) ∧ Aside0 (kq ≤ k3) ∧ Aside0 (w'.heap[gb127]? = some (.cells #[(.slice (some ad146) l0_0.length c0_0), .bool a0_1] 24 (0, 0))) ∧ Aside0 (Below w.heap.size w w'))
           case atStart => exact ⟨(0), zi, H', ⟨Nat.le_refl _⟩, ⟨by (with_reducible repeat (first | refine kN ?_ _ | refine kD ?_ | refine kA ?_ _)); exact BK127.out⟩, ⟨by repeat (first | (with_reducible first | exact HB.out | apply bA | apply bN | apply bD | refine bS ?_ GE127.out) | exact HB.out)⟩⟩
           case round =>
            clear H'
            obtain ⟨x11_4, rfl, HA, HK4, BK127, HB⟩ := hrel
            cases gk with
            | zero => exact absurd HA.out (by simp [clerestoryref1_DocErr.l4])
            | succ k4 =>
             have H := HA.out
             clear HA
             simp only [clerestoryref1_DocErr.l4] at H
             refine iT H ?p76 ?n76 <;> clear H
             case' p76 => intro c76b0 H; replace H := iB H; obtain ⟨t147, A77, H⟩ := H; obtain ⟨hczL_0, hczL_1, hfzL_0, hfzL_1⟩ := bk2 BK127.out; refine iT H ?p78 ?n78 <;> clear H
             case' p78 => intro c78b0 H
             case' n78 => intro c78b0 H; refine iT H ?p81 ?n81 <;> clear H
             case' p81 => intro c81b0 H
             case' n81 => intro c81b0 H
             case' n76 => intro c76b0 H
             case p78 =>
              obtain rfl := Option.some.inj H
              go_wp2_with (first | ((with_reducible refine q0j (f := 65) rfl ?_); refine q1d (some 166) rfl rfl Tryd.func65 (by kernel_rfl) rfl #[.agg #[.slice (some ad146) l0_0.length c0_0, .bool a0_1], .int .i64 x11_4] rfl zc ?_; (with_reducible refine (clerestoryref1_Deep.calls k4 _ _ l0_0 a0_1 x11_4 t147 _ ?side1 ?side2 A77.out).mono ?_); (case side1 => repeat (first | exact (Kd.C_below HR0_0.out HB.out) | (with_reducible refine cA ?_ _) | (with_reducible refine cN ?_ _) | (with_reducible refine cD ?_))); (case side2 => exact HC0_0.out); rintro e w80 ⟨rfl, hb⟩; refine ⟨_, rfl, ?_⟩; replace BK127 := aS (q02 (g := gb127) (o := .cells #[.slice (some ad146) l0_0.length c0_0, .bool a0_1] 24 (0, 0)) (za BK127.out) hb); replace HB := aS (q01 (z6 HB.out GE127.out) hb); (try clear hb); (try clear hb2); (try clear hk); (try clear hi)))
              go_ret
              exact ⟨by first | rfl | (simp [q05, q04] <;> rfl) | (simp [*, q05, q04] <;> rfl), by repeat (first | (with_reducible first | exact HB.out | apply bA | apply bN | apply bD | refine bS ?_ GE127.out) | exact HB.out)⟩
             case p81 =>
              obtain rfl := Option.some.inj H
              go_wp2_with (first | ((with_reducible refine q0j (f := 65) rfl ?_); refine q1d (some 166) rfl rfl Tryd.func65 (by kernel_rfl) rfl #[.agg #[.slice (some ad146) l0_0.length c0_0, .bool a0_1], .int .i64 x11_4] rfl zc ?_; (with_reducible refine (clerestoryref1_Deep.calls k4 _ _ l0_0 a0_1 x11_4 t147 _ ?side1 ?side2 A77.out).mono ?_); (case side1 => repeat (first | exact (Kd.C_below HR0_0.out HB.out) | (with_reducible refine cA ?_ _) | (with_reducible refine cN ?_ _) | (with_reducible refine cD ?_))); (case side2 => exact HC0_0.out); rintro e w83 ⟨rfl, hb⟩; refine ⟨_, rfl, ?_⟩; replace BK127 := aS (q02 (g := gb127) (o := .cells #[.slice (some ad146) l0_0.length c0_0, .bool a0_1] 24 (0, 0)) (za BK127.out) hb); replace HB := aS (q01 (z6 HB.out GE127.out) hb); (try clear hb); (try clear hb2); (try clear hk); (try clear hi)))
              go_ret
              exact ⟨by first | rfl | (simp [q05, q04] <;> rfl) | (simp [*, q05, q04] <;> rfl), by repeat (first | (with_reducible first | exact HB.out | apply bA | apply bN | apply bD | refine bS ?_ GE127.out) | exact HB.out)⟩
             case n81 =>
              have H' := aS H
              clear H
              go_wp2_with (first | ((with_reducible refine q0j (f := 65) rfl ?_); refine q1d (some 166) rfl rfl Tryd.func65 (by kernel_rfl) rfl #[.agg #[.slice (some ad146) l0_0.length c0_0, .bool a0_1], .int .i64 x11_4] rfl zc ?_; (with_reducible refine (clerestoryref1_Deep.calls k4 _ _ l0_0 a0_1 x11_4 t147 _ ?side1 ?side2 A77.out).mono ?_); (case side1 => repeat (first | exact (Kd.C_below HR0_0.out HB.out) | (with_reducible refine cA ?_ _) | (with_reducible refine cN ?_ _) | (with_reducible refine cD ?_))); (case side2 => exact HC0_0.out); rintro e w85 ⟨rfl, hb⟩; refine ⟨_, rfl, ?_⟩; replace BK127 := aS (q02 (g := gb127) (o := .cells #[.slice (some ad146) l0_0.length c0_0, .bool a0_1] 24 (0, 0)) (za BK127.out) hb); replace HB := aS (q01 (z6 HB.out GE127.out) hb); (try clear hb); (try clear hb2); (try clear hk); (try clear hi)))
              go_roundg k4
              case measure => have := HK1.out; have := HK2.out; have := HK3.out; have := HK4.out; omega
              case rel => exact ⟨(wrap64 (x11_4 + 1)), zi, H', ⟨by have := HK1.out; have := HK2.out; have := HK3.out; have := HK4.out; omega⟩, ⟨by (with_reducible repeat (first | refine kN ?_ _ | refine kD ?_ | refine kA ?_ _)); exact BK127.out⟩, ⟨by repeat (first | (with_reducible first | exact HB.out | apply bA | apply bN | apply bD | refine bS ?_ GE127.out) | exact HB.out)⟩⟩
             case n76 =>
              obtain rfl := Option.some.inj H
              go_wp2
              go_ret
              exact ⟨by first | rfl | (simp [q05, q04] <;> rfl) | (simp [*, q05, q04] <;> rfl), by repeat (first | (with_reducible first | exact HB.out | apply bA | apply bN | apply bD | refine bS ?_ GE127.out) | exact HB.out)⟩
          case n74 =>
           obtain rfl := Option.some.inj H
           have qi146 : (0 < l0_0.length) = True := eq_true (by omega)
           (try rw [show ((0 : Int)).toNat = 0 from rfl] at hx146_0)
           (try rw [show 0 * 6 = 0 from rfl] at hx146_0)
           (try rw [Addr.add_zero'] at hx146_0)
           (try rw [show ((0 : Int)).toNat = 0 from rfl] at hx146_1)
           (try rw [show 0 * 6 = 0 from rfl] at hx146_1)
           (try rw [Addr.add_zero'] at hx146_1)
           (try rw [show ((0 : Int)).toNat = 0 from rfl] at hx146_2)
           (try rw [show 0 * 6 = 0 from rfl] at hx146_2)
           (try rw [Addr.add_zero'] at hx146_2)
           (try rw [show ((0 : Int)).toNat = 0 from rfl] at hx146_3)
           (try rw [show 0 * 6 = 0 from rfl] at hx146_3)
           (try rw [Addr.add_zero'] at hx146_3)
           (try rw [show ((0 : Int)).toNat = 0 from rfl] at hx146_4)
           (try rw [show 0 * 6 = 0 from rfl] at hx146_4)
           (try rw [Addr.add_zero'] at hx146_4)
           (try rw [show ((0 : Int)).toNat = 0 from rfl] at hx146_5)
           (try rw [show 0 * 6 = 0 from rfl] at hx146_5)
           (try rw [Addr.add_zero'] at hx146_5)
           replace hx146_0 := q0b HB.out hx146_0
           replace hx146_1 := q0b HB.out hx146_1
           replace hx146_2 := q0b HB.out hx146_2
           replace hx146_3 := q0b HB.out hx146_3
           replace hx146_4 := q0b HB.out hx146_4
           replace hx146_5 := q0b HB.out hx146_5
           have HR146_2 := aS hi146_2
           have HC146_2 := aS hl146_2
           clear hi146_2 hl146_2
           have HR146_5 := aS hi146_5
           have HC146_5 := aS hl146_5
           clear hi146_5 hl146_5
           replace p146 := eq_true p146
           replace q146 := eq_true q146
           go_wp2
           go_ret
           exact ⟨by first | rfl | (simp [q05, q04] <;> rfl) | (simp [*, q05, q04] <;> rfl), by repeat (first | (with_reducible first | exact HB.out | apply bA | apply bN | apply bD | refine bS ?_ GE127.out) | exact HB.out)⟩
end Go.Proofs.YthjnallbbhnndaaDoor.XDe
namespace Go.Proofs.YthjnallbbhnndaaDoor.Dm
open Go Go.RowKit Go.Proofs.YthjnallbbhnndaaDoor.XDe Go.Proofs.YthjnallbbhnndaaDoorW.PrintWords Go.Proofs.YthjnallbbhnndaaDoorW.PrintLast
def smallB (b : Int) : Bool := decide (97 ≤ b) && decide (b ≤ 122)
def signB (b : Int) : Bool := smallB b || (decide (48 ≤ b) && decide (b ≤ 57)) || decide (b = 45) || decide (b = 95) || decide (b = 58)
def firstB (el : Bool) (b : Int) : Bool := smallB b || (!el && (decide (b = 45) || decide (b = 95)))
def nameB (s : ByteArray) (el : Bool) : Bool := decide (1 ≤ s.size) && (decide (s.size ≤ 40) && ((bytesOf s).all signB && firstB el (bt s 0)))
theorem drop_bt (s : ByteArray) (i : Nat) (h : i < s.size) : (bytesOf s).drop i = bt s (i : Int) :: (bytesOf s).drop (i + 1) := by
  have hl : i < (bytesOf s).length := by rw [bytesOf_length]; exact h
  rw [List.drop_eq_getElem_cons hl]
  congr 1
  have := rd_bytesOf s (i : Int)
  rw [← this]
  simp [rd, List.getD, hl]
theorem j2_eq (k : Nat) (s : ByteArray) (el : Bool) (i b : Int) : clerestoryref1_domName.j2 (k + 1) s el i b (smallB b) = clerestoryref1_domName.j3 k s el i b (smallB b) (!signB b) := by
  rw [clerestoryref1_domName.j2]
  unfold signB
  cases hs : smallB b with
  | true => simp
  | false =>
    rw [if_neg (by decide)]
    by_cases h1 : b ≥ 48
    · rw [if_pos h1]
      by_cases h2 : b ≤ 57
      · rw [if_pos h2]; simp [h1, h2]
      · rw [if_neg h2]
        by_cases h3 : b = 45
        · rw [if_pos h3]; simp [h3]
        · rw [if_neg h3]
          by_cases h4 : b = 95
          · rw [if_pos h4]; simp [h4]
          · rw [if_neg h4]
            by_cases h5 : b = 58
            · simp [h5]
            · rw [show (b != 58) = true from by simp [h5]]; simp [h2, h3, h4, h5]
    · rw [if_neg h1]
      by_cases h3 : b = 45
      · rw [if_pos h3]; simp [h3]
      · rw [if_neg h3]
        by_cases h4 : b = 95
        · rw [if_pos h4]; simp [h4]
        · rw [if_neg h4]
          by_cases h5 : b = 58
          · simp [h5]
          · rw [show (b != 58) = true from by simp [h5]]; simp [h1, h3, h4, h5]
theorem l0_eq (k : Nat) (s : ByteArray) (el : Bool) (i : Nat) (h : i < s.size) : clerestoryref1_domName.l0 (k + 2) s el (i : Int) = clerestoryref1_domName.j3 k s el (i : Int) (bt s (i : Int)) (smallB (bt s (i : Int))) (!signB (bt s (i : Int))) := by
  rw [clerestoryref1_domName.l0, if_pos (by omega), if_pos (by omega), ← j2_eq]
  generalize bt s (i : Int) = b
  by_cases h1 : b ≥ 97
  · rw [if_pos h1, show decide (b ≤ 122) = smallB b from by unfold smallB; simp [h1]]
  · rw [if_neg h1, show false = smallB b from by unfold smallB; simp [h1]]
theorem refname_l0 (s : ByteArray) (el : Bool) (hs : s.size ≤ 1000) (d : Nat) : ∀ (i k : Nat), i + d = s.size → 3 * d < k → 1 ≤ i → clerestoryref1_domName.l0 k s el (i : Int) = some (((bytesOf s).drop i).all signB) := by
  induction d with
  | zero =>
    intro i k h hk _
    obtain ⟨k, rfl⟩ : ∃ q, k = q + 1 := ⟨k - 1, by omega⟩
    rw [clerestoryref1_domName.l0, if_neg (by omega), List.drop_eq_nil_of_le (by rw [bytesOf_length]; omega)]
    rfl
  | succ d ih =>
    intro i k h hk h1
    obtain ⟨k, rfl⟩ : ∃ q, k = q + 1 + 2 := ⟨k - 3, by omega⟩
    rw [l0_eq (k + 1) s el i (by omega), clerestoryref1_domName.j3, drop_bt s i (by omega), List.all_cons]
    cases hb : signB (bt s (i : Int)) with
    | false => rw [if_pos (by decide)]; rfl
    | true =>
      rw [if_neg (by decide), if_neg (by omega), show wrap64 ((i : Int) + 1) = ((i + 1 : Nat) : Int) from by unfold wrap64; omega, ih (i + 1) k (by omega) (by omega) (by omega)]
      rfl
theorem refname_eq (s : ByteArray) (el : Bool) (k : Nat) (hk : 130 < k) : clerestoryref1_domName.f k s el = some (nameB s el) := by
  obtain ⟨k, rfl⟩ : ∃ q, k = q + 1 + 2 + 1 := ⟨k - 4, by omega⟩
  unfold clerestoryref1_domName.f nameB
  by_cases h1 : s.size < 1
  · rw [if_pos (by omega), clerestoryref1_domName.j0, if_pos rfl]
    have : ¬ 1 ≤ s.size := by omega
    simp [this]
  · rw [if_neg (by omega), clerestoryref1_domName.j0]
    by_cases h2 : s.size ≤ 40
    · rw [if_neg (by simp; omega), show (0 : Int) = ((0 : Nat) : Int) from rfl, l0_eq (k + 1) s el 0 (by omega), clerestoryref1_domName.j3]
      have hd := drop_bt s 0 (by omega)
      rw [List.drop_zero] at hd
      rw [hd, List.all_cons, show decide (1 ≤ s.size) = true from decide_eq_true (by omega), show decide (s.size ≤ 40) = true from decide_eq_true h2]
      have hr := refname_l0 s el (by omega) (s.size - 1) 1 k (by omega) (by omega) (Nat.le_refl _)
      rw [show wrap64 (((0 : Nat) : Int) + 1) = ((1 : Nat) : Int) from by unfold wrap64; decide, hr]
      generalize ((bytesOf s).drop (0 + 1)) = t at hr ⊢
      generalize bt s ((0 : Nat) : Int) = b
      unfold firstB
      cases hb : signB b with
      | false => rw [if_pos (by decide)]; simp
      | true =>
        rw [if_neg (by decide), if_pos (by decide)]
        cases hsm : smallB b with
        | true => simp
        | false =>
          rw [if_neg (by decide)]
          cases el with
          | true => simp
          | false =>
            rw [if_neg (by decide)]
            by_cases h3 : b = 45
            · rw [if_pos h3]; simp [h3]
            · rw [if_neg h3]
              by_cases h4 : b = 95
              · rw [if_pos h4]; simp [h4]
              · rw [if_neg h4]; simp [h3, h4]
    · rw [if_pos (by simp; omega)]
      simp [h2]
def signsA : ByteArray := ⟨#[97, 98, 99, 100, 101, 102, 103, 104, 105, 106, 107, 108, 109, 110, 111, 112, 113, 114, 115, 116, 117, 118, 119, 120, 121, 122, 48, 49, 50, 51, 52, 53, 54, 55, 56, 57, 45, 95, 58]⟩
def firstA (el : Bool) : ByteArray := if el = true then signsA.extract 0 26 else signsA.extract 0 26 ++ ⟨#[45, 95]⟩
theorem first_all (el : Bool) : ∀ n : Fin 256, decide (0 ≤ Lib.indexByte (firstA el).data.toList (UInt8.ofNat n.val)) = firstB el (n.val : Int) := by
  cases el <;> decide +kernel
theorem sign_all : ∀ n : Fin 256, (signsA.data.toList).contains (UInt8.ofNat n.val) = signB (n.val : Int) := by decide +kernel
theorem first_eq (el : Bool) (b : Int) (h : 0 ≤ b ∧ b ≤ 255) : decide (0 ≤ Lib.indexByte (firstA el).data.toList (UInt8.ofNat b.toNat)) = firstB el b := by
  have := first_all el ⟨b.toNat, by omega⟩
  rw [show ((⟨b.toNat, by omega⟩ : Fin 256).val : Int) = b from by simp; omega] at this
  exact this
theorem sign_eq (c : UInt8) : (signsA.data.toList).contains c = signB (c.toNat : Int) := by
  have := sign_all ⟨c.toNat, c.toNat_lt⟩
  simpa using this
theorem dropWhile_nil {α : Type} (p : α → Bool) : ∀ l : List α, (l.dropWhile p = [] ↔ ∀ x ∈ l, p x = true)
  | [] => by simp
  | x :: t => by
    rw [List.dropWhile_cons]
    cases h : p x with
    | true => rw [if_pos rfl, dropWhile_nil p t]; simp [h]
    | false => rw [if_neg (by decide)]; simp [h]
theorem trim_nil (l cs : List UInt8) : Lib.trimS l cs = [] ↔ ∀ x ∈ l, cs.contains x = true := by
  unfold Lib.trimS Lib.trimLeftS Lib.trimRightS
  rw [dropWhile_nil]
  constructor
  · intro h x hx
    have e := List.takeWhile_append_dropWhile (p := fun y => cs.contains y) (l := l.reverse)
    have hx' : x ∈ l.reverse := List.mem_reverse.2 hx
    rw [← e] at hx'
    rcases List.mem_append.1 hx' with h1 | h1
    · exact List.all_eq_true.1 (List.all_takeWhile (p := fun y => cs.contains y) (l := l.reverse)) x h1
    · exact h x (List.mem_reverse.2 h1)
  · intro h x hx
    have h1 : x ∈ l.reverse := (List.dropWhile_sublist _).subset (List.mem_reverse.1 hx)
    exact h x (List.mem_reverse.1 h1)
theorem named_eq (s : ByteArray) (el : Bool) (hs : s.size ≤ 140737488355328) : dom_named.f s (firstA el) = some (nameB s el) := by
  unfold dom_named.f nameB
  by_cases h0 : s.toList = []
  · have : s.size = 0 := by
      rw [Lib.toList_data] at h0
      rw [← data_length, h0]; rfl
    have h2 : ¬ 1 ≤ s.size := by omega
    rw [if_pos h0]; simp [h2]
  · have hp : 1 ≤ s.size := by
      rw [Lib.toList_data] at h0
      have := List.length_pos_iff.2 h0
      rw [data_length] at this
      omega
    rw [if_neg h0]
    by_cases h1 : s.size ≤ 40
    · rw [if_pos (by omega), if_pos (by omega)]
      unfold strings_IndexByte.f strings_Trim.f
      simp only [Option.bind_some]
      have hf := first_eq el (bt s 0) (bt_range s 0)
      have ht : (((⟨(Lib.trimS s.data.toList signsA.data.toList).toArray⟩ : ByteArray).toList == ([] : List UInt8))) = (bytesOf s).all signB := by
        rw [Lib.toList_data, Bool.eq_iff_iff]
        simp only [beq_iff_eq]
        rw [trim_nil, List.all_eq_true]
        simp only [sign_eq]
        unfold bytesOf
        simp
      by_cases h2 : Lib.indexByte (firstA el).data.toList (UInt8.ofNat (bt s 0).toNat) ≥ 0
      · rw [if_pos h2, if_pos ⟨hs, by decide, by decide⟩]
        simp only [Option.bind_some]
        rw [decide_eq_true h2] at hf
        rw [← hf]
        have := ht
        unfold signsA at this
        rw [this]
        simp [hp, h1]
      · rw [if_neg h2]
        rw [decide_eq_false h2] at hf
        rw [← hf]
        simp
    · rw [if_neg (by omega)]; simp [h1]
theorem Name_eq (s : ByteArray) (hs : s.size ≤ 140737488355328) : dom_Name.f s = some (nameB s true) := by
  unfold dom_Name.f
  have := named_eq s true hs
  rw [show firstA true = (⟨#[97, 98, 99, 100, 101, 102, 103, 104, 105, 106, 107, 108, 109, 110, 111, 112, 113, 114, 115, 116, 117, 118, 119, 120, 121, 122, 48, 49, 50, 51, 52, 53, 54, 55, 56, 57, 45, 95, 58]⟩ : ByteArray).extract 0 26 from rfl] at this
  rw [if_pos (by decide), if_pos (by decide), this]
  rfl
theorem attrName_eq (s : ByteArray) (hs : s.size ≤ 140737488355328) : dom_attrName.f s = some (nameB s false) := by
  unfold dom_attrName.f
  have := named_eq s false hs
  rw [show firstA false = (⟨#[97, 98, 99, 100, 101, 102, 103, 104, 105, 106, 107, 108, 109, 110, 111, 112, 113, 114, 115, 116, 117, 118, 119, 120, 121, 122, 48, 49, 50, 51, 52, 53, 54, 55, 56, 57, 45, 95, 58]⟩ : ByteArray).extract 0 26 ++ (⟨#[45, 95]⟩ : ByteArray) from rfl] at this
  rw [if_pos (by decide), if_pos (by decide), if_pos (by decide), this]
  rfl
end Go.Proofs.YthjnallbbhnndaaDoor.Dm
namespace Go.Proofs.YthjnallbbhnndaaDoor.Dm
open Go Go.RowKit Go.Proofs.YthjnallbbhnndaaDoor.XDe Go.Proofs.YthjnallbbhnndaaDoorW.PrintWords Go.Proofs.YthjnallbbhnndaaDoorW.PrintLast
def hasA (l : List S122) (nm : ByteArray) : Bool := l.any (fun x => x.f0.toList == nm.toList)
theorem find_has (l : List S122) (nm : ByteArray) (hl : l.length ≤ 1000000) : ∃ r, dom_find.f l nm = some r ∧ decide (r ≥ 0) = hasA l nm := by
  unfold dom_find.f
  rw [if_pos (by omega)]
  exact ⟨_, rfl, Cl.idxOf_any _ l⟩
theorem dropA (l : List S122) (i : Nat) (h : i < l.length) : l.drop i = q03 l (i : Int) :: l.drop (i + 1) := by
  rw [List.drop_eq_getElem_cons h]
  congr 1
  simp [q03, List.getD, h]
theorem rdA (l : List S122) (i : Nat) (h : i < l.length) : q03 l (i : Int) = l[i] := by simp [q03, List.getD, h]
theorem attrOf_l0 (l : List S122) (nm : ByteArray) (hl : l.length ≤ 1000000) (d : Nat) : ∀ (i k : Nat), i + d = l.length → d < k → ∃ v, clerestoryref1_AttrOf.l0 k l nm (i : Int) = some (v, (l.drop i).any (fun x => x.f0.toList == nm.toList)) := by
  induction d with
  | zero =>
    intro i k h hk
    obtain ⟨k, rfl⟩ : ∃ q, k = q + 1 := ⟨k - 1, by omega⟩
    rw [clerestoryref1_AttrOf.l0, if_neg (by omega), List.drop_eq_nil_of_le (by omega)]
    exact ⟨_, rfl⟩
  | succ d ih =>
    intro i k h hk
    obtain ⟨k, rfl⟩ : ∃ q, k = q + 1 := ⟨k - 1, by omega⟩
    obtain ⟨v, hv⟩ := ih (i + 1) k (by omega) (by omega)
    rw [clerestoryref1_AttrOf.l0, if_pos (by omega), if_pos (by omega), show wrap64 ((i : Int) + 1) = ((i + 1 : Nat) : Int) from by unfold wrap64; omega, dropA l i (by omega), List.any_cons, hv]
    by_cases hn : (q03 l (i : Int)).f0.toList = nm.toList
    · rw [if_pos hn]; exact ⟨(q03 l (i : Int)).f1, by simp [hn]⟩
    · rw [if_neg hn]; exact ⟨v, by simp [hn]⟩
theorem attrOf_has (l : List S122) (nm : ByteArray) (hl : l.length ≤ 1000000) (k : Nat) (hk : l.length < k) : ∃ v, clerestoryref1_AttrOf.f k l nm = some (v, hasA l nm) := by
  obtain ⟨v, h⟩ := attrOf_l0 l nm hl l.length 0 k (by omega) hk
  exact ⟨v, h⟩
def errA (l : List S122) : Nat → Nat → Int
  | 0, _ => 0
  | d + 1, i => if nameB (q03 l (i : Int)).f0 false = true then (if 400 < (q03 l (i : Int)).f1.size then 2 else if hasA (l.take i) (q03 l (i : Int)).f0 = true then 3 else errA l d (i + 1)) else 3
theorem errA_succ (l : List S122) (d i : Nat) : errA l (d + 1) i = if nameB (q03 l (i : Int)).f0 false = true then (if 400 < (q03 l (i : Int)).f1.size then 2 else if hasA (l.take i) (q03 l (i : Int)).f0 = true then 3 else errA l d (i + 1)) else 3 := rfl
def smallA (l : List S122) : Prop := ∀ x ∈ l, x.f0.size ≤ 140737488355328
theorem attrs_l0 (l : List S122) (hl : l.length ≤ 1000000) (hs : smallA l) (d : Nat) : ∀ (i k : Nat), i + d = l.length → d < k → dom_attrs.l0 k l l (l.length : Int) (i : Int) = some (errA l d i) := by
  induction d with
  | zero =>
    intro i k h hk
    obtain ⟨k, rfl⟩ : ∃ q, k = q + 1 := ⟨k - 1, by omega⟩
    rw [dom_attrs.l0, if_neg (by omega)]
    rfl
  | succ d ih =>
    intro i k h hk
    obtain ⟨k, rfl⟩ : ∃ q, k = q + 1 := ⟨k - 1, by omega⟩
    have hm : q03 l (i : Int) ∈ l := by rw [rdA l i (by omega)]; exact List.getElem_mem _
    obtain ⟨r, hr1, hr2⟩ := find_has (l.take i) (q03 l (i : Int)).f0 (by rw [List.length_take]; omega)
    rw [dom_attrs.l0, if_pos (by omega), if_pos (by omega), if_pos (by omega), attrName_eq _ (hs _ hm), show wrap64 ((i : Int) + 1) = ((i + 1 : Nat) : Int) from by unfold wrap64; omega, ih (i + 1) k (by omega) (by omega), show ((i : Int)).toNat = i from rfl, hr1]
    simp only [Option.bind_some]
    rw [errA_succ]
    cases nameB (q03 l (i : Int)).f0 false with
    | false => rw [if_neg (by decide), if_neg (by decide)]
    | true =>
      rw [if_pos rfl, if_pos rfl]
      by_cases h4 : 400 < (q03 l (i : Int)).f1.size
      · rw [if_pos (by omega), if_pos h4]
      · rw [if_neg (by omega), if_neg h4, if_pos (by omega), ← hr2]
        by_cases h5 : r ≥ 0
        · rw [if_pos h5, if_pos (decide_eq_true h5)]
        · rw [if_neg h5, if_neg (by simpa using h5)]
theorem attrs_eq (l : List S122) (hs : smallA l) (k : Nat) (hk : 12 < k) : dom_attrs.f k l = some (if 12 < l.length then 2 else errA l l.length 0) := by
  unfold dom_attrs.f
  by_cases h : 12 < l.length
  · rw [if_pos (by omega), if_pos h]
  · rw [if_neg (by omega), if_neg h]
    exact attrs_l0 l (by omega) hs l.length 0 k (by omega) (by omega)
def bareB (x : S43) : Bool := (decide (x.f0 = 2) || decide (x.f0 = 5) || decide (x.f1.toList = [])) && ((decide (x.f0 = 2) || decide (x.f2.length = 0)) && ((decide (x.f0 = 3) || decide (x.f0 = 4) || decide (x.f3.toList = [])) && (decide (x.f0 = 1) || decide (x.f0 = 2) || decide (x.f5.length = 0))))
theorem bare_eq (x : S43) (h1 : 1 ≤ x.f0) (h5 : x.f0 ≤ 5) : dom_bare.f x.f0 x.f1 x.f2 x.f3 x.f4 x.f5 = some (bareB x) := by
  obtain ⟨kind, name, attrs, text, parent, kids⟩ := x
  simp only at h1 h5 ⊢
  have hk : kind = 1 ∨ kind = 2 ∨ kind = 3 ∨ kind = 4 ∨ kind = 5 := by omega
  unfold dom_bare.f dom_parent.f bareB
  by_cases hn : name.toList = [] <;> by_cases ha : attrs.length = 0 <;> by_cases ht : text.toList = [] <;> by_cases hd : kids.length = 0 <;> rcases hk with rfl | rfl | rfl | rfl | rfl <;> simp [hn, ha, ht, hd]
def q1w (x : S43) : Int :=
  if x.f0 < 1 ∨ 5 < x.f0 ∨ bareB x = false then 7 else if x.f0 = 2 ∧ nameB x.f1 true = false then 3 else if 12 < x.f2.length then 2 else if errA x.f2 x.f2.length 0 ≠ 0 then errA x.f2 x.f2.length 0 else if 400 < x.f3.size ∨ 400 < x.f1.size then 2 else 0
theorem j1_eq (x : S43) (hs : smallA x.f2) (k : Nat) (hk : 13 < k) : dom_one.j1 k x.f0 x.f1 x.f2 x.f3 x.f4 x.f5 = some (if 12 < x.f2.length then 2 else if errA x.f2 x.f2.length 0 ≠ 0 then errA x.f2 x.f2.length 0 else if 400 < x.f3.size ∨ 400 < x.f1.size then 2 else 0) := by
  obtain ⟨k, rfl⟩ : ∃ q, k = q + 1 := ⟨k - 1, by omega⟩
  rw [dom_one.j1, attrs_eq x.f2 hs k (by omega)]
  simp only [Option.bind_some]
  by_cases h : 12 < x.f2.length
  · rw [if_pos h, if_pos h, if_neg (by decide)]
  · rw [if_neg h, if_neg h]
    by_cases h2 : errA x.f2 x.f2.length 0 = 0
    · rw [if_pos h2, if_neg (show ¬ errA x.f2 x.f2.length 0 ≠ 0 from fun hh => hh h2)]
      by_cases h3 : 400 < x.f3.size
      · rw [if_pos (by omega), if_pos (.inl h3)]
      · rw [if_neg (by omega)]
        by_cases h4 : 400 < x.f1.size
        · rw [if_pos (by omega), if_pos (.inr h4)]
        · rw [if_neg (by omega), if_neg (by omega)]
    · rw [if_neg h2, if_pos h2]
theorem one_eq (x : S43) (hs : smallA x.f2) (hn : x.f1.size ≤ 140737488355328) (k : Nat) (hk : 14 < k) : dom_one.f k x.f0 x.f1 x.f2 x.f3 x.f4 x.f5 = some (q1w x) := by
  obtain ⟨k, rfl⟩ : ∃ q, k = q + 1 := ⟨k - 1, by omega⟩
  have hj : ∀ b : Bool, dom_one.j0 (k + 1) b x.f0 x.f1 x.f2 x.f3 x.f4 x.f5 = some (if b = true then 7 else if x.f0 = 2 ∧ nameB x.f1 true = false then 3 else if 12 < x.f2.length then 2 else if errA x.f2 x.f2.length 0 ≠ 0 then errA x.f2 x.f2.length 0 else if 400 < x.f3.size ∨ 400 < x.f1.size then 2 else 0) := by
    intro b
    have hj1 := j1_eq x hs k (by omega)
    generalize (if 12 < x.f2.length then (2 : Int) else if errA x.f2 x.f2.length 0 ≠ 0 then errA x.f2 x.f2.length 0 else if 400 < x.f3.size ∨ 400 < x.f1.size then 2 else 0) = tl at hj1 ⊢
    rw [dom_one.j0, hj1, Name_eq x.f1 hn]
    simp only [Option.bind_some]
    cases b <;> by_cases h2 : x.f0 = 2 <;> cases nameB x.f1 true <;> simp [h2]
  unfold dom_one.f q1w
  by_cases h1 : x.f0 < 1
  · rw [if_pos h1, hj]; simp [h1]
  · rw [if_neg h1]
    by_cases h5 : x.f0 > 5
    · rw [if_pos h5, hj]; simp [h5]
    · rw [if_neg h5, bare_eq x (by omega) (by omega)]
      simp only [Option.bind_some]
      rw [hj]
      have h5' : ¬ 5 < x.f0 := h5
      cases bareB x <;> simp [h1, h5']
theorem rn_l0 (x : S43) (hl : x.f2.length ≤ 1000) (d : Nat) : ∀ (i k : Nat), i + d = x.f2.length → d + 150 + x.f2.length < k → clerestoryref1_NodeErr.l0 k (i : Int) x.f0 x.f1 x.f2 x.f3 x.f4 x.f5 = some (if errA x.f2 d i ≠ 0 then errA x.f2 d i else if 400 < x.f3.size ∨ 400 < x.f1.size then 2 else 0) := by
  induction d with
  | zero =>
    intro i k h hk
    obtain ⟨k, rfl⟩ : ∃ q, k = q + 1 := ⟨k - 1, by omega⟩
    rw [clerestoryref1_NodeErr.l0, if_neg (by omega)]
    by_cases h3 : 400 < x.f3.size
    · rw [if_pos (by omega)]; simp [errA, h3]
    · rw [if_neg (by omega)]
      by_cases h4 : 400 < x.f1.size
      · rw [if_pos (by omega)]; simp [errA, h3, h4]
      · rw [if_neg (by omega)]; simp [errA, h3, h4]
  | succ d ih =>
    intro i k h hk
    obtain ⟨k, rfl⟩ : ∃ q, k = q + 1 := ⟨k - 1, by omega⟩
    obtain ⟨v, hv⟩ := attrOf_has (x.f2.take i) (q03 x.f2 (i : Int)).f0 (by rw [List.length_take]; omega) k (by rw [List.length_take]; omega)
    have hi := ih (i + 1) k (by omega) (by omega)
    rw [errA_succ]
    generalize (if 400 < x.f3.size ∨ 400 < x.f1.size then (2 : Int) else 0) = tl at hi ⊢
    rw [clerestoryref1_NodeErr.l0, if_pos (by omega), if_pos (by omega), refname_eq _ false k (by omega), show wrap64 ((i : Int) + 1) = ((i + 1 : Nat) : Int) from by unfold wrap64; omega, hi, show ((i : Int)).toNat = i from rfl, hv]
    simp only [Option.bind_some]
    have h4 : ((q03 x.f2 (i : Int)).f1.size : Int) > 400 ↔ 400 < (q03 x.f2 (i : Int)).f1.size := by omega
    have h5 : (i : Int) ≤ (x.f2.length : Int) := by omega
    simp only [h4, h5, if_true]
    cases nameB (q03 x.f2 (i : Int)).f0 false <;> by_cases h6 : 400 < (q03 x.f2 (i : Int)).f1.size <;> cases hasA (x.f2.take i) (q03 x.f2 (i : Int)).f0 <;> simp [h6]
theorem rn_j1 (x : S43) (b : Bool) (k : Nat) (hk : 1200 < k) : clerestoryref1_NodeErr.j1 k b x.f0 x.f1 x.f2 x.f3 x.f4 x.f5 = some (if b = true then 3 else if 12 < x.f2.length then 2 else if errA x.f2 x.f2.length 0 ≠ 0 then errA x.f2 x.f2.length 0 else if 400 < x.f3.size ∨ 400 < x.f1.size then 2 else 0) := by
  obtain ⟨k, rfl⟩ : ∃ q, k = q + 1 := ⟨k - 1, by omega⟩
  rw [clerestoryref1_NodeErr.j1]
  cases b with
  | true => rfl
  | false =>
    by_cases h : 12 < x.f2.length
    · have h' : (x.f2.length : Int) > 12 := by omega
      simp [h, h']
    · have h' : ¬ (x.f2.length : Int) > 12 := by omega
      have := rn_l0 x (by omega) x.f2.length 0 k (by omega) (by omega)
      rw [if_neg (by decide), if_neg h', if_neg (by decide), if_neg h]
      exact this
theorem rn_j0 (x : S43) (b : Bool) (k : Nat) (hk : 1201 < k) : clerestoryref1_NodeErr.j0 k b x.f0 x.f1 x.f2 x.f3 x.f4 x.f5 = some (if b = true then 7 else if x.f0 = 2 ∧ nameB x.f1 true = false then 3 else if 12 < x.f2.length then 2 else if errA x.f2 x.f2.length 0 ≠ 0 then errA x.f2 x.f2.length 0 else if 400 < x.f3.size ∨ 400 < x.f1.size then 2 else 0) := by
  obtain ⟨k, rfl⟩ : ∃ q, k = q + 1 := ⟨k - 1, by omega⟩
  have hj := fun b => rn_j1 x b k (by omega)
  generalize (if 12 < x.f2.length then (2 : Int) else if errA x.f2 x.f2.length 0 ≠ 0 then errA x.f2 x.f2.length 0 else if 400 < x.f3.size ∨ 400 < x.f1.size then 2 else 0) = tl at hj ⊢
  rw [clerestoryref1_NodeErr.j0, refname_eq _ true k (by omega)]
  simp only [Option.bind_some, hj]
  cases b <;> by_cases h2 : x.f0 = 2 <;> cases nameB x.f1 true <;> simp [h2]
theorem nodeErr_eq (x : S43) (k : Nat) (hk : 1201 < k) : clerestoryref1_NodeErr.f k x.f0 x.f1 x.f2 x.f3 x.f4 x.f5 = some (q1w x) := by
  have hj := fun b => rn_j0 x b k hk
  unfold q1w
  by_cases h1 : x.f0 < 1
  · unfold clerestoryref1_NodeErr.f clerestoryref1_between.f
    rw [if_neg (by omega)]; simp [h1]
  · by_cases h5 : 5 < x.f0
    · unfold clerestoryref1_NodeErr.f clerestoryref1_between.f
      rw [if_pos (by omega)]
      have : ¬ x.f0 ≤ 5 := by omega
      simp [h5, this]
    · have e : clerestoryref1_NodeErr.f k x.f0 x.f1 x.f2 x.f3 x.f4 x.f5 = clerestoryref1_NodeErr.j0 k (!bareB x) x.f0 x.f1 x.f2 x.f3 x.f4 x.f5 := by
        clear hj
        obtain ⟨kind, name, attrs, text, parent, kids⟩ := x
        simp only at h1 h5 ⊢
        have hk : kind = 1 ∨ kind = 2 ∨ kind = 3 ∨ kind = 4 ∨ kind = 5 := by omega
        unfold clerestoryref1_NodeErr.f clerestoryref1_between.f bareB
        have ea : (attrs.length : Int) > 0 ↔ ¬ attrs.length = 0 := by omega
        have ed : (kids.length : Int) > 0 ↔ ¬ kids.length = 0 := by omega
        simp only [ea, ed]
        by_cases hn : name.toList = [] <;> by_cases ha : attrs.length = 0 <;> by_cases ht : text.toList = [] <;> by_cases hd : kids.length = 0 <;> rcases hk with rfl | rfl | rfl | rfl | rfl <;> simp [hn, ha, ht, hd]
      rw [e, hj]
      cases bareB x <;> simp [h1, h5]
end Go.Proofs.YthjnallbbhnndaaDoor.Dm
namespace Go.Proofs.YthjnallbbhnndaaDoor.Dm
open Go Go.RowKit Go.Proofs.YthjnallbbhnndaaDoor.XDe Go.Proofs.YthjnallbbhnndaaDoorW.PrintWords Go.Proofs.YthjnallbbhnndaaDoorW.PrintLast
def par (ns : List S43) (n : Int) : Int := (q00 ns n).f4
def InR (ns : List S43) : Prop := ∀ i : Int, 0 ≤ i → i < ns.length → par ns i < ns.length
def q1o (ns : List S43) : Nat → Int → Nat
  | 0, _ => 0
  | d + 1, n => if par ns n ≥ 0 then 1 + q1o ns d (par ns n) else 0
theorem deepN_le (ns : List S43) : ∀ d n, q1o ns d n ≤ d
  | 0, _ => Nat.le_refl _
  | d + 1, n => by
    unfold q1o
    have := deepN_le ns d (par ns n)
    split <;> omega
theorem up_l0 (ns : List S43) (q : Bool) (hl : ns.length ≤ 1000) (hr : InR ns) (d : Nat) : ∀ (many : Nat) (n : Int) (k : Nat), many + d = ns.length + 1 → 0 ≤ n → n < ns.length → d < k →
    dom_up.l0 k n (many : Int) ns q = some ((many + q1o ns d n : Nat) : Int) := by
  induction d with
  | zero =>
    intro many n k h h0 h1 hk
    obtain ⟨k, rfl⟩ : ∃ z, k = z + 1 := ⟨k - 1, by omega⟩
    rw [dom_up.l0, if_pos h0, if_pos h1]
    by_cases hp : (q00 ns n).f4 ≥ 0
    · rw [if_pos hp, if_neg (by omega)]; rfl
    · rw [if_neg hp]; rfl
  | succ d ih =>
    intro many n k h h0 h1 hk
    obtain ⟨k, rfl⟩ : ∃ z, k = z + 1 := ⟨k - 1, by omega⟩
    rw [dom_up.l0, if_pos h0, if_pos h1]
    have hrn := hr n h0 h1
    unfold q1o
    by_cases hp : par ns n ≥ 0
    · have hp' : (q00 ns n).f4 ≥ 0 := hp
      rw [if_pos hp', if_pos (by omega), if_pos hp, show wrap64 ((many : Int) + 1) = ((many + 1 : Nat) : Int) from by unfold wrap64; omega, show (q00 ns n).f4 = par ns n from rfl, ih (many + 1) (par ns n) k (by omega) hp hrn (by omega)]
      congr 2
      omega
    · have hp' : ¬ (q00 ns n).f4 ≥ 0 := hp
      rw [if_neg hp', if_neg hp]; rfl
theorem deep_l0 (ns : List S43) (q : Bool) (hl : ns.length ≤ 1000) (hr : InR ns) (d : Nat) : ∀ (many : Nat) (n : Int) (k : Nat), many + d = ns.length → 0 ≤ n → n < ns.length → d < k →
    clerestoryref1_Deep.l0 k n (many : Int) ns q = some (if ns.length < many + q1o ns (d + 1) n then -1 else ((many + q1o ns (d + 1) n : Nat) : Int)) := by
  induction d with
  | zero =>
    intro many n k h h0 h1 hk
    obtain ⟨k, rfl⟩ : ∃ z, k = z + 1 := ⟨k - 1, by omega⟩
    rw [clerestoryref1_Deep.l0, if_pos h0, if_pos h1, show wrap64 ((many : Int) + 1) = ((many + 1 : Nat) : Int) from by unfold wrap64; omega]
    have e : q1o ns (0 + 1) n = if par ns n ≥ 0 then 1 + 0 else 0 := rfl
    rw [e]
    by_cases hp : par ns n ≥ 0
    · have hp' : (q00 ns n).f4 ≥ 0 := hp
      rw [if_pos hp', if_pos (by omega), if_pos hp, if_pos (by omega)]
    · have hp' : ¬ (q00 ns n).f4 ≥ 0 := hp
      rw [if_neg hp', if_neg hp, if_neg (by omega)]; rfl
  | succ d ih =>
    intro many n k h h0 h1 hk
    obtain ⟨k, rfl⟩ : ∃ z, k = z + 1 := ⟨k - 1, by omega⟩
    have hrn := hr n h0 h1
    rw [clerestoryref1_Deep.l0, if_pos h0, if_pos h1, show wrap64 ((many : Int) + 1) = ((many + 1 : Nat) : Int) from by unfold wrap64; omega]
    have e : q1o ns (d + 1 + 1) n = if par ns n ≥ 0 then 1 + q1o ns (d + 1) (par ns n) else 0 := rfl
    rw [e]
    by_cases hp : par ns n ≥ 0
    · have hp' : (q00 ns n).f4 ≥ 0 := hp
      rw [if_pos hp', if_neg (by omega), if_pos hp, show (q00 ns n).f4 = par ns n from rfl, ih (many + 1) (par ns n) k (by omega) hp hrn (by omega), show many + 1 + q1o ns (d + 1) (par ns n) = many + (1 + q1o ns (d + 1) (par ns n)) by omega]
    · have hp' : ¬ (q00 ns n).f4 ≥ 0 := hp
      rw [if_neg hp', if_neg hp, if_neg (by omega)]; rfl
theorem up_eq (ns : List S43) (q : Bool) (hl : ns.length ≤ 1000) (hr : InR ns) (n : Int) (h0 : 0 ≤ n) (h1 : n < ns.length) (k : Nat) (hk : ns.length + 1 < k) : dom_up.f k ns q n = some ((q1o ns (ns.length + 1) n : Nat) : Int) := by
  have := up_l0 ns q hl hr (ns.length + 1) 0 n k (by omega) h0 h1 hk
  rw [Nat.zero_add] at this
  exact this
theorem deep_eq (ns : List S43) (q : Bool) (hl : ns.length ≤ 1000) (hr : InR ns) (n : Int) (h0 : 0 ≤ n) (h1 : n < ns.length) (k : Nat) (hk : ns.length < k) : clerestoryref1_Deep.f k ns q n = some (if ns.length < q1o ns (ns.length + 1) n then -1 else ((q1o ns (ns.length + 1) n : Nat) : Int)) := by
  have := deep_l0 ns q hl hr ns.length 0 n k (by omega) h0 h1 hk
  rw [Nat.zero_add] at this
  exact this
end Go.Proofs.YthjnallbbhnndaaDoor.Dm
namespace Go.Proofs.YthjnallbbhnndaaDoor.Dm
open Go Go.RowKit Go.Proofs.YthjnallbbhnndaaDoor.XDe Go.Proofs.YthjnallbbhnndaaDoorW.PrintWords Go.Proofs.YthjnallbbhnndaaDoorW.PrintLast
def hasK (l : List Int) (x : Int) : Bool := l.any (fun y => decide (y = x))
theorem dropK (o : List Int) (i : Nat) (h : i < o.length) : o.drop i = rd o (i : Int) :: o.drop (i + 1) := by
  rw [List.drop_eq_getElem_cons h]
  congr 1
  simp [rd, List.getD, h]
theorem takeK (o : List Int) (i : Nat) (h : i < o.length) : o.take (i + 1) = o.take i ++ [rd o (i : Int)] := by
  rw [List.take_succ_eq_append_getElem h]
  congr 2
  simp [rd, List.getD, h]
theorem place_l0 (o : List Int) (x : Int) (ho : o.length ≤ 4611686018427387904) (d : Nat) : ∀ (i k : Nat), i + d = o.length → d < k → ∃ r, clerestoryref1_placeIn.l0 k o x (i : Int) = some r ∧ decide (r ≥ 0) = (o.drop i).any (fun y => decide (y = x)) := by
  induction d with
  | zero =>
    intro i k h hk
    obtain ⟨k, rfl⟩ : ∃ q, k = q + 1 := ⟨k - 1, by omega⟩
    rw [clerestoryref1_placeIn.l0, if_neg (by omega), List.drop_eq_nil_of_le (by omega)]
    exact ⟨_, rfl, rfl⟩
  | succ d ih =>
    intro i k h hk
    obtain ⟨k, rfl⟩ : ∃ q, k = q + 1 := ⟨k - 1, by omega⟩
    obtain ⟨r, hi, hd⟩ := ih (i + 1) k (by omega) (by omega)
    rw [clerestoryref1_placeIn.l0, if_pos (by omega), if_pos (by omega), show wrap64 ((i : Int) + 1) = ((i + 1 : Nat) : Int) from by unfold wrap64; omega, hi, dropK o i (by omega), List.any_cons]
    by_cases hx : rd o (i : Int) = x
    · rw [if_pos hx]; exact ⟨_, rfl, by simp [hx]⟩
    · rw [if_neg hx]; exact ⟨r, rfl, by simpa [hx] using hd⟩
theorem place_has (o : List Int) (x : Int) (ho : o.length ≤ 4611686018427387904) (k : Nat) (hk : o.length < k) : ∃ r, clerestoryref1_placeIn.f k o x = some r ∧ decide (r ≥ 0) = hasK o x := by
  obtain ⟨r, h1, h2⟩ := place_l0 o x ho o.length 0 k (by omega) hk
  exact ⟨r, h1, by rw [h2, List.drop_zero]; rfl⟩
def kidL (ns : List S43) (n : Int) : List Int := (q00 ns n).f5
def q1p (ns : List S43) (i : Int) (pre : List Int) (c : Int) : Bool := decide (c < 0) || (decide (c ≥ ns.length) || (decide (par ns c ≠ i) || hasK pre c))
def kidsE (ns : List S43) (i : Int) : List Int → List Int → Int
  | _, [] => 0
  | pre, c :: t => if q1p ns i pre c = true then 3 else if i = 0 ∧ (q00 ns c).f0 = 3 then 7 else kidsE ns i (pre ++ [c]) t
theorem kidsE_cons (ns : List S43) (i : Int) (pre : List Int) (c : Int) (t : List Int) : kidsE ns i pre (c :: t) = if q1p ns i pre c = true then 3 else if i = 0 ∧ (q00 ns c).f0 = 3 then 7 else kidsE ns i (pre ++ [c]) t := rfl
theorem kidBad_range {ns : List S43} {i : Int} {pre : List Int} {c : Int} (h : ¬ q1p ns i pre c = true) : 0 ≤ c ∧ c < ns.length ∧ par ns c = i ∧ hasK pre c = false := by
  unfold q1p at h
  simp only [Bool.or_eq_true, decide_eq_true_eq, not_or, Decidable.not_not, Bool.not_eq_true] at h
  exact ⟨by omega, by omega, h.2.2.1, h.2.2.2⟩
def orE (a b : Int) : Int := if a ≠ 0 then a else b
theorem q26 (b : Int) : orE 0 b = b := by simp [orE]
theorem orE_ne {a : Int} (b : Int) (h : a ≠ 0) : orE a b = a := by simp [orE, h]
theorem w1 (i : Nat) (h : i ≤ 4611686018427387904) : wrap64 ((i : Int) + 1) = ((i + 1 : Nat) : Int) := by unfold wrap64; omega
theorem wm (n : Nat) (h : n ≤ 4611686018427387904) : wrap64 ((n : Int) - 1) = (n : Int) - 1 := by unfold wrap64; omega
theorem ref_j4 (ns : List S43) (q : Bool) (i p : Nat) (c : Int) (pre t : List Int) (hp : p ≤ 4611686018427387903) (R : Int) (k : Nat)
    (hi : clerestoryref1_DocErr.l2 k (ns.length : Int) (i : Int) ((p + 1 : Nat) : Int) ns q = some (orE (kidsE ns (i : Int) (pre ++ [c]) t) R)) :
    clerestoryref1_DocErr.j4 (k + 1) (ns.length : Int) (i : Int) (p : Int) c (q1p ns (i : Int) pre c) ns q = some (orE (kidsE ns (i : Int) pre (c :: t)) R) := by
  rw [clerestoryref1_DocErr.j4, kidsE_cons]
  by_cases hb : q1p ns (i : Int) pre c = true
  · rw [if_pos hb, if_pos hb]; rfl
  · rw [if_neg hb, if_neg hb]
    have hr := kidBad_range hb
    by_cases h0 : (i : Int) = 0
    · rw [if_pos h0, if_pos hr.1, if_pos hr.2.1]
      by_cases h3 : (q00 ns c).f0 = 3
      · rw [if_pos h3, if_pos ⟨h0, h3⟩]; rfl
      · rw [if_neg h3, if_neg (fun h => h3 h.2), w1 p (by omega), hi]
    · rw [if_neg h0, if_neg (fun h => h0 h.1), w1 p (by omega), hi]
theorem refkids (ns : List S43) (q : Bool) (hl : ns.length ≤ 1000) (i : Nat) (hi : i < ns.length) (ks : List Int) (hks : (q00 ns (i : Int)).f5 = ks) (hc : ks.length ≤ 4611686018427387900) (B : Nat) (hB : ks.length < B) (R : Int)
    (H : ∀ k, B ≤ k → clerestoryref1_DocErr.l1 k (ns.length : Int) ((i + 1 : Nat) : Int) ns q = some R) (d : Nat) : ∀ (p k : Nat), p + d = ks.length → 2 * d + B < k →
    clerestoryref1_DocErr.l2 k (ns.length : Int) (i : Int) (p : Int) ns q = some (orE (kidsE ns (i : Int) (ks.take p) (ks.drop p)) R) := by
  induction d with
  | zero =>
    intro p k h hk
    obtain ⟨k, rfl⟩ : ∃ z, k = z + 1 := ⟨k - 1, by omega⟩
    rw [clerestoryref1_DocErr.l2, hks, if_pos (by omega), if_pos (by omega), if_neg (by omega), w1 i (by omega), H k (by omega), List.drop_eq_nil_of_le (by omega)]
    rfl
  | succ d ih =>
    intro p k h hk
    obtain ⟨k, rfl⟩ : ∃ z, k = z + 2 := ⟨k - 2, by omega⟩
    have hlt : p < ks.length := by omega
    have hi2 := ih (p + 1) k (by omega) (by omega)
    rw [takeK ks p hlt] at hi2
    obtain ⟨r, hr1, hr2⟩ := place_has (ks.take p) (rd ks (p : Int)) (by rw [List.length_take]; omega) (k + 1) (by rw [List.length_take]; omega)
    rw [clerestoryref1_DocErr.l2, hks, if_pos (by omega), if_pos (by omega), if_pos (by omega), if_pos (by omega), dropK ks p hlt, show ((p : Nat) : Int).toNat = p from rfl]
    obtain ⟨c, hcc⟩ : ∃ c, rd ks (p : Int) = c := ⟨_, rfl⟩
    rw [hcc] at hi2 hr1 ⊢
    rw [hcc] at hr2
    have hj : ∀ b, b = q1p ns (i : Int) (ks.take p) c → clerestoryref1_DocErr.j4 (k + 1) (ns.length : Int) (i : Int) (p : Int) c b ns q = some (orE (kidsE ns (i : Int) (ks.take p) (c :: ks.drop (p + 1))) R) := by
      rintro b rfl
      exact ref_j4 ns q i p c _ _ (by omega) R k hi2
    unfold clerestoryref1_between.f
    rw [wm ns.length (by omega)]
    by_cases c0 : c ≥ 0
    · rw [if_pos c0, Option.bind_some]
      by_cases c1 : c < (ns.length : Int)
      · rw [if_pos (decide_eq_true (by omega)), if_pos c0, if_pos c1]
        by_cases c2 : (q00 ns c).f4 = (i : Int)
        · rw [if_pos c2, if_pos (by omega), hr1, Option.bind_some]
          refine hj _ ?_
          rw [hr2]
          unfold q1p par
          rw [decide_eq_false (by omega), decide_eq_false (by omega), decide_eq_false (by simpa using c2)]
          simp
        · rw [if_neg c2]
          refine hj _ ?_
          unfold q1p par
          rw [decide_eq_true (p := (q00 ns c).f4 ≠ (i : Int)) c2]
          simp
      · rw [if_neg (by rw [decide_eq_false (by omega)]; exact Bool.false_ne_true)]
        refine hj _ ?_
        unfold q1p
        rw [decide_eq_true (p := c ≥ (ns.length : Int)) (by omega)]
        simp
    · rw [if_neg c0, Option.bind_some, if_neg Bool.false_ne_true]
      refine hj _ ?_
      unfold q1p
      rw [decide_eq_true (p := c < 0) (by omega)]
      simp
def kidsL (ns : List S43) : Nat → Nat → Int
  | 0, _ => 0
  | d + 1, i => orE (kidsE ns (i : Int) [] (kidL ns (i : Int))) (kidsL ns d (i + 1))
def q1q (ns : List S43) (i : Int) : Bool := decide (par ns i ≠ -1) && !(decide (0 ≤ par ns i) && (decide (par ns i < ns.length) && hasK (kidL ns (par ns i)) i))
def q20 (ns : List S43) : Nat → Nat → Int
  | 0, _ => if par ns 0 = -1 then 0 else 3
  | d + 1, i => if q1q ns (i : Int) = true then 3 else q20 ns d (i + 1)
def KidsLe (ns : List S43) (M : Nat) : Prop := ∀ i : Int, (kidL ns i).length ≤ M
theorem ref_l1 (ns : List S43) (q : Bool) (hl : ns.length ≤ 1000) (M : Nat) (hM : M ≤ 4611686018427387900) (hk : KidsLe ns M) (B : Nat) (hB : M < B) (R : Int)
    (H : ∀ k, B ≤ k → clerestoryref1_DocErr.l3 k (ns.length : Int) 0 ns q = some R) (d : Nat) : ∀ (i k : Nat), i + d = ns.length → (2 * M + 3) * d + B < k →
    clerestoryref1_DocErr.l1 k (ns.length : Int) (i : Int) ns q = some (orE (kidsL ns d i) R) := by
  induction d with
  | zero =>
    intro i k h hk
    obtain ⟨k, rfl⟩ : ∃ z, k = z + 1 := ⟨k - 1, by omega⟩
    rw [clerestoryref1_DocErr.l1, if_neg (by omega), H k (by omega)]
    rfl
  | succ d ih =>
    intro i k h hk'
    obtain ⟨k, rfl⟩ : ∃ z, k = z + 1 := ⟨k - 1, by omega⟩
    have e : (2 * M + 3) * (d + 1) = (2 * M + 3) * d + (2 * M + 3) := Nat.mul_succ _ _
    have hki := hk (i : Int)
    rw [clerestoryref1_DocErr.l1, if_pos (by omega)]
    have hr := refkids ns q hl i (by omega) (kidL ns (i : Int)) rfl (by omega) ((2 * M + 3) * d + B + 1) (by omega) (orE (kidsL ns d (i + 1)) R) (fun k hk => ih (i + 1) k (by omega) (by omega)) (kidL ns (i : Int)).length 0 k (by omega) (by omega)
    rw [List.take_zero, List.drop_zero] at hr
    rw [show ((0 : Nat) : Int) = 0 from rfl] at hr
    rw [hr]
    rw [show kidsL ns (d + 1) i = orE (kidsE ns (i : Int) [] (kidL ns (i : Int))) (kidsL ns d (i + 1)) from rfl]
    by_cases hz : kidsE ns (i : Int) [] (kidL ns (i : Int)) = 0
    · simp only [hz, q26]
    · rw [orE_ne _ hz, orE_ne _ hz, orE_ne _ hz]
theorem ref_l3 (ns : List S43) (q : Bool) (hl : ns.length ≤ 1000) (h1 : 0 < ns.length) (M : Nat) (hM : M ≤ 4611686018427387900) (hk : KidsLe ns M) (B : Nat) (hB : M < B) (R : Int)
    (H : q20 ns ns.length 0 = 0 → ∀ k, B ≤ k → clerestoryref1_DocErr.l4 k (ns.length : Int) 0 ns q = some R) (d : Nat) : ∀ (i k : Nat), i + d = ns.length → q20 ns d i = q20 ns ns.length 0 → d + B < k →
    clerestoryref1_DocErr.l3 k (ns.length : Int) (i : Int) ns q = some (orE (q20 ns d i) R) := by
  induction d with
  | zero =>
    intro i k h hp hk
    obtain ⟨k, rfl⟩ : ∃ z, k = z + 1 := ⟨k - 1, by omega⟩
    rw [clerestoryref1_DocErr.l3, if_neg (by omega), if_pos (by omega)]
    by_cases c : (q00 ns 0).f4 = -1
    · have e : q20 ns 0 i = 0 := by unfold q20 par; rw [if_pos c]
      rw [if_pos c, e, q26]
      exact H (by rw [← hp, e]) k (by omega)
    · have e : q20 ns 0 i = 3 := by unfold q20 par; rw [if_neg c]
      rw [if_neg c, e]
      rfl
  | succ d ih =>
    intro i k h hp hk'
    obtain ⟨k, rfl⟩ : ∃ z, k = z + 1 := ⟨k - 1, by omega⟩
    have e0 : q20 ns (d + 1) i = if q1q ns (i : Int) = true then 3 else q20 ns d (i + 1) := rfl
    rw [clerestoryref1_DocErr.l3, if_pos (by omega), if_pos (by omega), if_pos (by omega), w1 i (by omega), wm ns.length (by omega)]
    have good : q1q ns (i : Int) = false → clerestoryref1_DocErr.l3 k (ns.length : Int) ((i + 1 : Nat) : Int) ns q = some (orE (q20 ns (d + 1) i) R) := by
      intro hb
      rw [e0, if_neg (by rw [hb]; exact Bool.false_ne_true)] at hp ⊢
      exact ih (i + 1) k (by omega) hp (by omega)
    have bad : q1q ns (i : Int) = true → some (3 : Int) = some (orE (q20 ns (d + 1) i) R) := by
      intro hb
      rw [e0, if_pos hb]
      rfl
    show (if par ns (i : Int) = -1 then _ else _) = _
    by_cases c : par ns (i : Int) = -1
    · rw [if_pos c]
      exact good (by unfold q1q; rw [c]; rfl)
    · rw [if_neg c]
      unfold clerestoryref1_between.f
      show ((if par ns (i : Int) ≥ 0 then some (decide (par ns (i : Int) ≤ (ns.length : Int) - 1)) else some false).bind fun t143 => (if t143 = true then (if 0 ≤ par ns (i : Int) then (if par ns (i : Int) < (ns.length : Int) then ((clerestoryref1_placeIn.f k (kidL ns (par ns (i : Int))) (i : Int)).bind fun t145 => (if t145 < 0 then (some 3) else (clerestoryref1_DocErr.l3 k (ns.length : Int) ((i + 1 : Nat) : Int) ns q))) else (none)) else (none)) else (some 3))) = _
      by_cases c0 : par ns (i : Int) ≥ 0
      · rw [if_pos c0, Option.bind_some]
        by_cases c1 : par ns (i : Int) < (ns.length : Int)
        · rw [if_pos (decide_eq_true (by omega)), if_pos c0, if_pos c1]
          have hki := hk (par ns (i : Int))
          obtain ⟨r, hr1, hr2⟩ := place_has (kidL ns (par ns (i : Int))) (i : Int) (by omega) k (by omega)
          rw [hr1, Option.bind_some]
          have hpb : q1q ns (i : Int) = !(hasK (kidL ns (par ns (i : Int))) (i : Int)) := by
            unfold q1q
            rw [decide_eq_true c, decide_eq_true (p := 0 ≤ par ns (i : Int)) c0, decide_eq_true c1]
            simp
          by_cases c3 : r < 0
          · rw [if_pos c3]
            exact bad (by rw [hpb, ← hr2, decide_eq_false (by omega)]; rfl)
          · rw [if_neg c3]
            exact good (by rw [hpb, ← hr2, decide_eq_true (by omega)]; rfl)
        · rw [if_neg (by rw [decide_eq_false (by omega)]; exact Bool.false_ne_true)]
          exact bad (by unfold q1q; rw [decide_eq_true c, decide_eq_false c1]; simp)
      · rw [if_neg c0, Option.bind_some, if_neg Bool.false_ne_true]
        exact bad (by unfold q1q; rw [decide_eq_true c, decide_eq_false (p := 0 ≤ par ns (i : Int)) c0]; simp)
end Go.Proofs.YthjnallbbhnndaaDoor.Dm
namespace Go.Proofs.YthjnallbbhnndaaDoor.Dm
open Go Go.RowKit Go.Proofs.YthjnallbbhnndaaDoor.XDe Go.Proofs.YthjnallbbhnndaaDoorW.PrintWords Go.Proofs.YthjnallbbhnndaaDoorW.PrintLast
theorem seen_set (S : List Bool) (c x : Int) (hc : 0 ≤ c) (hc' : c < S.length) (hx : 0 ≤ x) : (rdOf false (S.set c.toNat true) x = true) ↔ (x = c ∨ rdOf false S x = true) := by
  unfold rdOf
  simp only [List.getD_eq_getElem?_getD, List.getElem?_set]
  by_cases h : x = c
  · subst h
    simp [show x.toNat < S.length by omega]
  · rw [if_neg (by omega)]
    simp [h]
theorem hasK_snoc (l : List Int) (c x : Int) : hasK (l ++ [c]) x = true ↔ (x = c ∨ hasK l x = true) := by
  unfold hasK
  simp only [List.any_append, List.any_cons, List.any_nil, Bool.or_false, Bool.or_eq_true, decide_eq_true_eq]
  constructor
  · rintro (h | h)
    · exact .inr h
    · exact .inl h.symm
  · rintro (h | h)
    · exact .inr h.symm
    · exact .inl h
def Ahead (ns : List S43) (i : Nat) : Prop := ∀ j : Nat, j < i → ∀ c, hasK (kidL ns (j : Int)) c = true → 0 ≤ c ∧ c < ns.length ∧ par ns c = (j : Int)
def Seen (ns : List S43) (S : List Bool) (i : Nat) (pre : List Int) : Prop := S.length = ns.length ∧ ∀ c : Int, 0 ≤ c → c < ns.length → (rdOf false S c = true ↔ ((∃ j : Nat, j < i ∧ hasK (kidL ns (j : Int)) c = true) ∨ hasK pre c = true))
theorem seen_same {ns : List S43} {S : List Bool} {i : Nat} {pre : List Int} (hs : Seen ns S i pre) (ha : Ahead ns i) {c : Int} (h0 : 0 ≤ c) (h1 : c < ns.length) (hp : par ns c = (i : Int)) : rdOf false S c = hasK pre c := by
  have h := hs.2 c h0 h1
  cases hb : hasK pre c
  · cases hr : rdOf false S c
    · rfl
    · exfalso
      rcases h.1 hr with ⟨j, hj, hk⟩ | hk
      · have := (ha j hj c hk).2.2
        omega
      · rw [hb] at hk
        cases hk
  · exact h.2 (.inr hb)
theorem kidsE_ok {ns : List S43} {i : Int} : ∀ {l pre : List Int}, kidsE ns i pre l = 0 → ∀ c ∈ l, 0 ≤ c ∧ c < ns.length ∧ par ns c = i
  | [], _, _, c, hc => by simp at hc
  | x :: t, pre, h, c, hc => by
    rw [kidsE_cons] at h
    by_cases hb : q1p ns i pre x = true
    · rw [if_pos hb] at h; cases h
    · rw [if_neg hb] at h
      have hr := kidBad_range hb
      by_cases h7 : i = 0 ∧ (q00 ns x).f0 = 3
      · rw [if_pos h7] at h; cases h
      · rw [if_neg h7] at h
        rcases List.mem_cons.1 hc with rfl | hc
        · exact ⟨hr.1, hr.2.1, hr.2.2.1⟩
        · exact kidsE_ok h c hc
theorem prog_j2 (ns : List S43) (q : Bool) (i p : Nat) (c : Int) (pre t ks : List Int) (S : List Bool) (hS : S.length = ns.length) (len : Int) (hp : p ≤ 4611686018427387903) (R : Int) (k : Nat)
    (hi : ¬ q1p ns (i : Int) pre c = true → ¬ ((i : Int) = 0 ∧ (q00 ns c).f0 = 3) → dom_kids.l1 k (S.set c.toNat true) (i : Int) ns (ns.length : Int) (i : Int) ks len ((p + 1 : Nat) : Int) ns q = some (orE (kidsE ns (i : Int) (pre ++ [c]) t) R)) :
    dom_kids.j2 (k + 1) S (i : Int) c ns (ns.length : Int) (i : Int) ks len (p : Int) (q1p ns (i : Int) pre c) ns q = some (orE (kidsE ns (i : Int) pre (c :: t)) R) := by
  rw [dom_kids.j2, kidsE_cons]
  by_cases hb : q1p ns (i : Int) pre c = true
  · rw [if_pos hb, if_pos hb]; rfl
  · rw [if_neg hb, if_neg hb]
    have hr := kidBad_range hb
    by_cases h0 : (i : Int) = 0
    · rw [if_pos h0, if_pos hr.1, if_pos hr.2.1]
      by_cases h3 : (q00 ns c).f0 = 3
      · rw [if_pos h3, if_pos ⟨h0, h3⟩]; rfl
      · rw [if_neg h3, if_pos (by rw [hS]; exact hr.2.1), if_neg (fun h => h3 h.2), w1 p (by omega), hi hb (fun h => h3 h.2)]
    · rw [if_neg h0, if_pos hr.1, if_pos (by rw [hS]; exact hr.2.1), if_neg (fun h => h0 h.1), w1 p (by omega), hi hb (fun h => h0 h.1)]
theorem prog_l1 (ns : List S43) (q : Bool) (hl : ns.length ≤ 1000) (i : Nat) (hi : i < ns.length) (ha : Ahead ns i) (ks : List Int) (hks : kidL ns (i : Int) = ks) (hc : ks.length ≤ 4611686018427387900) (B : Nat) (R : Int)
    (H : kidsE ns (i : Int) [] ks = 0 → ∀ S, Seen ns S (i + 1) [] → ∀ k, B ≤ k → dom_kids.l0 k S ns (ns.length : Int) ((i + 1 : Nat) : Int) ns q = some R) (d : Nat) : ∀ (p k : Nat) (S : List Bool), p + d = ks.length → Seen ns S i (ks.take p) →
    kidsE ns (i : Int) (ks.take p) (ks.drop p) = kidsE ns (i : Int) [] ks → 2 * d + B < k →
    dom_kids.l1 k S (i : Int) ns (ns.length : Int) (i : Int) ks (ks.length : Int) (p : Int) ns q = some (orE (kidsE ns (i : Int) (ks.take p) (ks.drop p)) R) := by
  induction d with
  | zero =>
    intro p k S h hs he hk
    obtain ⟨k, rfl⟩ : ∃ z, k = z + 1 := ⟨k - 1, by omega⟩
    rw [List.drop_eq_nil_of_le (by omega)] at he
    have he0 : kidsE ns (i : Int) [] ks = 0 := he.symm
    rw [List.take_of_length_le (by omega)] at hs
    rw [dom_kids.l1, if_neg (by omega), w1 i (by omega), List.drop_eq_nil_of_le (by omega)]
    refine (H he0 S ⟨hs.1, fun c h0 h1 => (hs.2 c h0 h1).trans ⟨?_, ?_⟩⟩ k (by omega)).trans rfl
    · rintro (⟨j, hj, hb⟩ | hb)
      · exact .inl ⟨j, by omega, hb⟩
      · exact .inl ⟨i, by omega, by rw [hks]; exact hb⟩
    · rintro (⟨j, hj, hb⟩ | hb)
      · by_cases e : j = i
        · subst e
          rw [hks] at hb
          exact .inr hb
        · exact .inl ⟨j, by omega, hb⟩
      · cases hb
  | succ d ih =>
    intro p k S h hs he hk
    obtain ⟨k, rfl⟩ : ∃ z, k = z + 2 := ⟨k - 2, by omega⟩
    have hlt : p < ks.length := by omega
    rw [dom_kids.l1, if_pos (by omega), if_pos (by omega), if_pos (by omega), dropK ks p hlt]
    rw [dropK ks p hlt] at he
    have ih' := ih (p + 1) k
    rw [takeK ks p hlt] at ih'
    obtain ⟨c, hcc⟩ : ∃ c, rd ks (p : Int) = c := ⟨_, rfl⟩
    rw [hcc] at ih' he ⊢
    have hj : ∀ b, b = q1p ns (i : Int) (ks.take p) c → dom_kids.j2 (k + 1) S (i : Int) c ns (ns.length : Int) (i : Int) ks (ks.length : Int) (p : Int) b ns q = some (orE (kidsE ns (i : Int) (ks.take p) (c :: ks.drop (p + 1))) R) := by
      rintro b rfl
      refine prog_j2 ns q i p c _ _ ks S hs.1 _ (by omega) R k fun hb h7 => ?_
      have hr := kidBad_range hb
      refine ih' (S.set c.toNat true) (by omega) ⟨by rw [List.length_set]; exact hs.1, fun x h0 h1 => ?_⟩ ?_ (by omega)
      · rw [seen_set S c x hr.1 (by rw [hs.1]; exact hr.2.1) h0, hs.2 x h0 h1, hasK_snoc]
        constructor
        · rintro (hx | hx | hx)
          · exact .inr (.inl hx)
          · exact .inl hx
          · exact .inr (.inr hx)
        · rintro (hx | hx | hx)
          · exact .inr (.inl hx)
          · exact .inl hx
          · exact .inr (.inr hx)
      · rw [kidsE_cons, if_neg hb, if_neg h7] at he
        exact he
    by_cases c0 : c < 0
    · rw [if_pos c0]
      refine hj _ ?_
      unfold q1p
      rw [decide_eq_true c0]
      simp
    rw [if_neg c0]
    by_cases c1 : c ≥ (ns.length : Int)
    · rw [if_pos (by rw [hs.1]; exact c1)]
      refine hj _ ?_
      unfold q1p
      rw [decide_eq_true c1]
      simp
    rw [if_neg (by rw [hs.1]; exact c1), if_pos (by omega), if_pos (by omega)]
    by_cases c2 : (q00 ns c).f4 = (i : Int)
    · rw [if_pos c2, if_pos (by rw [hs.1]; omega)]
      refine hj _ ?_
      rw [seen_same hs ha (by omega) (by omega) c2]
      unfold q1p par
      rw [decide_eq_false c0, decide_eq_false c1, decide_eq_false (by simpa using c2)]
      simp
    · rw [if_neg c2]
      refine hj _ ?_
      unfold q1p par
      rw [decide_eq_true (p := (q00 ns c).f4 ≠ (i : Int)) c2]
      simp
theorem prog_l2 (ns : List S43) (q : Bool) (hl : ns.length ≤ 1000) (h1 : 0 < ns.length) (ha : Ahead ns ns.length) (S : List Bool) (hs : Seen ns S ns.length []) (d : Nat) : ∀ (i k : Nat), i + d = ns.length → d < k →
    dom_kids.l2 k S ns (ns.length : Int) (i : Int) ns q = some (q20 ns d i) := by
  induction d with
  | zero =>
    intro i k h hk
    obtain ⟨k, rfl⟩ : ∃ z, k = z + 1 := ⟨k - 1, by omega⟩
    rw [dom_kids.l2, if_neg (by omega), if_pos (by omega)]
    unfold q20 par
    split <;> rfl
  | succ d ih =>
    intro i k h hk
    obtain ⟨k, rfl⟩ : ∃ z, k = z + 1 := ⟨k - 1, by omega⟩
    rw [dom_kids.l2, if_pos (by omega), if_pos (by omega), if_pos (by omega), w1 i (by omega), ih (i + 1) k (by omega) (by omega)]
    rw [show q20 ns (d + 1) i = if q1q ns (i : Int) = true then 3 else q20 ns d (i + 1) from rfl]
    show (if par ns (i : Int) = -1 then _ else _) = _
    by_cases c : par ns (i : Int) = -1
    · rw [if_pos c, if_neg (by unfold q1q; rw [c]; simp)]
    · rw [if_neg c, if_pos (by rw [hs.1]; omega)]
      have hh := hs.2 (i : Int) (by omega) (by omega)
      by_cases hr : rdOf false S (i : Int) = true
      · rw [if_pos hr]
        rcases hh.1 hr with ⟨j, hj, hk⟩ | hk
        · have hp := (ha j hj (i : Int) hk).2.2
          rw [if_neg]
          unfold q1q
          rw [hp, hk, decide_eq_true (p := 0 ≤ ((j : Nat) : Int)) (by omega), decide_eq_true (p := ((j : Nat) : Int) < (ns.length : Int)) (by omega)]
          simp
        · cases hk
      · rw [if_neg hr, if_pos]
        unfold q1q
        rw [decide_eq_true c, Bool.true_and]
        by_cases c0 : 0 ≤ par ns (i : Int)
        · by_cases c1 : par ns (i : Int) < (ns.length : Int)
          · cases hb : hasK (kidL ns (par ns (i : Int))) (i : Int)
            · simp
            · exfalso
              refine hr (hh.2 (.inl ⟨(par ns (i : Int)).toNat, by omega, ?_⟩))
              rw [show (((par ns (i : Int)).toNat : Nat) : Int) = par ns (i : Int) by omega]
              exact hb
          · rw [decide_eq_false c1]; simp
        · rw [decide_eq_false c0]; simp
theorem prog_l0 (ns : List S43) (q : Bool) (hl : ns.length ≤ 1000) (h1 : 0 < ns.length) (M : Nat) (hM : M ≤ 4611686018427387900) (hk : KidsLe ns M) (d : Nat) : ∀ (i k : Nat) (S : List Bool), i + d = ns.length → Seen ns S i [] → Ahead ns i → (2 * M + 3) * d + ns.length + 1 < k →
    dom_kids.l0 k S ns (ns.length : Int) (i : Int) ns q = some (orE (kidsL ns d i) (q20 ns ns.length 0)) := by
  induction d with
  | zero =>
    intro i k S h hs ha hk
    obtain ⟨k, rfl⟩ : ∃ z, k = z + 1 := ⟨k - 1, by omega⟩
    obtain rfl : i = ns.length := by omega
    rw [dom_kids.l0, if_neg (by omega)]
    exact prog_l2 ns q hl h1 ha S hs ns.length 0 k (by omega) (by omega)
  | succ d ih =>
    intro i k S h hs ha hk'
    obtain ⟨k, rfl⟩ : ∃ z, k = z + 1 := ⟨k - 1, by omega⟩
    have e : (2 * M + 3) * (d + 1) = (2 * M + 3) * d + (2 * M + 3) := Nat.mul_succ _ _
    have hki := hk (i : Int)
    rw [dom_kids.l0, if_pos (by omega), if_pos (by omega), if_pos (by omega)]
    have hr := prog_l1 ns q hl i (by omega) ha (kidL ns (i : Int)) rfl (by omega) ((2 * M + 3) * d + ns.length + 2) (orE (kidsL ns d (i + 1)) (q20 ns ns.length 0)) (fun he S hs k hk => ih (i + 1) k S (by omega) hs (fun j hj c hc => by
        by_cases e : j = i
        · subst e
          unfold hasK at hc
          obtain ⟨y, hy, hyc⟩ := List.any_eq_true.1 hc
          obtain rfl := of_decide_eq_true hyc
          exact kidsE_ok he y hy
        · exact ha j (by omega) c hc) (by omega)) (kidL ns (i : Int)).length 0 k S (by omega) hs rfl (by omega)
    rw [List.take_zero, List.drop_zero, show ((0 : Nat) : Int) = 0 from rfl] at hr
    refine hr.trans ?_
    rw [show kidsL ns (d + 1) i = orE (kidsE ns (i : Int) [] (kidL ns (i : Int))) (kidsL ns d (i + 1)) from rfl]
    by_cases hz : kidsE ns (i : Int) [] (kidL ns (i : Int)) = 0
    · simp only [hz, q26]
    · rw [orE_ne _ hz, orE_ne _ hz, orE_ne _ hz]
def kidsAll (ns : List S43) : Int := orE (kidsL ns ns.length 0) (q20 ns ns.length 0)
theorem kids_eq (ns : List S43) (q : Bool) (hl : ns.length ≤ 1000) (h1 : 0 < ns.length) (M : Nat) (hM : M ≤ 4611686018427387900) (hk : KidsLe ns M) (k : Nat) (hk' : (2 * M + 3) * ns.length + ns.length + 1 < k) :
    dom_kids.f k ns q = some (kidsAll ns) := by
  unfold dom_kids.f
  rw [if_pos (by omega), if_pos (by omega)]
  refine (prog_l0 ns q hl h1 M hM hk ns.length 0 k _ (by omega) ⟨by simp, fun c h0 h1 => ?_⟩ (fun j hj => by omega) hk').trans rfl
  have e : rdOf false (List.replicate ((ns.length : Int) : Int).toNat false) c = false := by
    unfold rdOf
    simp [List.getD_eq_getElem?_getD, List.getElem?_replicate]
    split <;> rfl
  rw [e]
  constructor
  · intro h; cases h
  · rintro (⟨j, hj, _⟩ | h)
    · omega
    · cases h
end Go.Proofs.YthjnallbbhnndaaDoor.Dm
namespace Go.Proofs.YthjnallbbhnndaaDoor.Dm
open Go Go.RowKit Go.Proofs.YthjnallbbhnndaaDoor.XDe Go.Proofs.YthjnallbbhnndaaDoorW.PrintWords Go.Proofs.YthjnallbbhnndaaDoorW.PrintLast
def q1z (ns : List S43) (i : Nat) : Bool := decide ((q00 ns (i : Int)).f0 = 1) != decide (i = 0)
def nodesE (ns : List S43) : Nat → Nat → Int
  | 0, _ => 0
  | d + 1, i => if q1z ns i = true then 3 else orE (q1w (q00 ns (i : Int))) (nodesE ns d (i + 1))
theorem nodesE_succ (ns : List S43) (d i : Nat) : nodesE ns (d + 1) i = if q1z ns i = true then 3 else orE (q1w (q00 ns (i : Int))) (nodesE ns d (i + 1)) := rfl
def q0m (ns : List S43) (i : Int) : Nat := q1o ns (ns.length + 1) i
def upsE (ns : List S43) : Nat → Nat → Int
  | 0, _ => 0
  | d + 1, i => if ns.length < q0m ns (i : Int) then 8 else if 40 < q0m ns (i : Int) then 2 else upsE ns d (i + 1)
theorem upsE_succ (ns : List S43) (d i : Nat) : upsE ns (d + 1) i = if ns.length < q0m ns (i : Int) then 8 else if 40 < q0m ns (i : Int) then 2 else upsE ns d (i + 1) := rfl
def docE (ns : List S43) : Int :=
  if 200 < ns.length then 2 else if ns.length = 0 then 3 else orE (nodesE ns ns.length 0) (orE (kidsAll ns) (upsE ns ns.length 0))
def SmallN (ns : List S43) : Prop := ∀ i : Int, smallA (q00 ns i).f2 ∧ (q00 ns i).f1.size ≤ 140737488355328
theorem parsE_ok {ns : List S43} : ∀ {d i : Nat}, q20 ns d i = 0 → par ns 0 = -1 ∧ ∀ j : Nat, i ≤ j → j < i + d → q1q ns (j : Int) = false
  | 0, i, h => by
    unfold q20 at h
    by_cases c : par ns 0 = -1
    · exact ⟨c, fun j h1 h2 => by omega⟩
    · rw [if_neg c] at h; cases h
  | d + 1, i, h => by
    rw [show q20 ns (d + 1) i = if q1q ns (i : Int) = true then 3 else q20 ns d (i + 1) from rfl] at h
    by_cases c : q1q ns (i : Int) = true
    · rw [if_pos c] at h; cases h
    · rw [if_neg c] at h
      obtain ⟨h1, h2⟩ := parsE_ok h
      refine ⟨h1, fun j h3 h4 => ?_⟩
      by_cases e : j = i
      · subst e; simpa using c
      · exact h2 j (by omega) (by omega)
theorem orE_eq_zero {a b : Int} (h : orE a b = 0) : a = 0 ∧ b = 0 := by
  unfold orE at h
  by_cases c : a = 0
  · simp [c] at h; exact ⟨c, h⟩
  · rw [if_pos c] at h; exact absurd h c
theorem parBad_ok {ns : List S43} {i : Int} (h : q1q ns i = false) : par ns i = -1 ∨ (0 ≤ par ns i ∧ par ns i < ns.length ∧ hasK (kidL ns (par ns i)) i = true) := by
  unfold q1q at h
  by_cases c : par ns i = -1
  · exact .inl c
  · right
    simp [c] at h
    exact ⟨h.1, h.2.1, h.2.2⟩
theorem inR_of {ns : List S43} (h : q20 ns ns.length 0 = 0) : InR ns := by
  intro i h0 h1
  have := (parsE_ok h).2 i.toNat (Nat.zero_le _) (by omega)
  rw [show ((i.toNat : Nat) : Int) = i by omega] at this
  rcases parBad_ok this with h | h
  · omega
  · exact h.2.1
theorem prog_ups (ns : List S43) (q : Bool) (hl : ns.length ≤ 1000) (hr : InR ns) (d : Nat) : ∀ (i k : Nat), i + d = ns.length → d + ns.length + 2 < k → dom_Check.l1 k (ns.length : Int) (i : Int) ns q = some (upsE ns d i) := by
  induction d with
  | zero =>
    intro i k h hk
    obtain ⟨k, rfl⟩ : ∃ z, k = z + 1 := ⟨k - 1, by omega⟩
    rw [dom_Check.l1, if_neg (by omega)]
    rfl
  | succ d ih =>
    intro i k h hk
    obtain ⟨k, rfl⟩ : ∃ z, k = z + 1 := ⟨k - 1, by omega⟩
    rw [dom_Check.l1, if_pos (by omega), up_eq ns q hl hr (i : Int) (by omega) (by omega) k (by omega), Option.bind_some, w1 i (by omega), ih (i + 1) k (by omega) (by omega), upsE_succ]
    unfold q0m
    by_cases c : ns.length < q1o ns (ns.length + 1) (i : Int)
    · rw [if_pos (by omega), if_pos c]
    · rw [if_neg (by omega), if_neg c]
      by_cases c' : 40 < q1o ns (ns.length + 1) (i : Int)
      · rw [if_pos (by omega), if_pos c']
      · rw [if_neg (by omega), if_neg c']
theorem ref_ups (ns : List S43) (q : Bool) (hl : ns.length ≤ 1000) (hr : InR ns) (d : Nat) : ∀ (i k : Nat), i + d = ns.length → d + ns.length + 2 < k → clerestoryref1_DocErr.l4 k (ns.length : Int) (i : Int) ns q = some (upsE ns d i) := by
  induction d with
  | zero =>
    intro i k h hk
    obtain ⟨k, rfl⟩ : ∃ z, k = z + 1 := ⟨k - 1, by omega⟩
    rw [clerestoryref1_DocErr.l4, if_neg (by omega)]
    rfl
  | succ d ih =>
    intro i k h hk
    obtain ⟨k, rfl⟩ : ∃ z, k = z + 1 := ⟨k - 1, by omega⟩
    rw [clerestoryref1_DocErr.l4, if_pos (by omega), deep_eq ns q hl hr (i : Int) (by omega) (by omega) k (by omega), Option.bind_some, w1 i (by omega), ih (i + 1) k (by omega) (by omega), upsE_succ]
    unfold q0m
    by_cases c : ns.length < q1o ns (ns.length + 1) (i : Int)
    · rw [if_pos c, if_pos c, if_pos (by omega)]
    · rw [if_neg c, if_neg c, if_neg (by omega)]
      by_cases c' : 40 < q1o ns (ns.length + 1) (i : Int)
      · rw [if_pos (by omega), if_pos c']
      · rw [if_neg (by omega), if_neg c']
def rounds (ns : List S43) (M : Nat) : Nat := (2 * M + 3) * ns.length + 3 * ns.length + M + 1300
theorem prog_nodes (ns : List S43) (q : Bool) (hl : ns.length ≤ 200) (h1 : 0 < ns.length) (hs : SmallN ns) (M : Nat) (hM : M ≤ 4611686018427387900) (hk : KidsLe ns M) (d : Nat) : ∀ (i k : Nat), i + d = ns.length → d + rounds ns M < k →
    dom_Check.l0 k ns (ns.length : Int) (i : Int) ns q = some (orE (nodesE ns d i) (orE (kidsAll ns) (upsE ns ns.length 0))) := by
  induction d with
  | zero =>
    intro i k h hk'
    obtain ⟨k, rfl⟩ : ∃ z, k = z + 1 := ⟨k - 1, by omega⟩
    unfold rounds at hk'
    rw [dom_Check.l0, if_neg (by omega), kids_eq ns q (by omega) h1 M hM hk k (by omega), Option.bind_some]
    show _ = some (orE 0 _)
    rw [q26]
    by_cases c : kidsAll ns = 0
    · rw [if_pos c, c, q26]
      have hr : InR ns := inR_of (orE_eq_zero c).2
      exact prog_ups ns q (by omega) hr ns.length 0 k (by omega) (by omega)
    · rw [if_neg c, orE_ne _ c]
  | succ d ih =>
    intro i k h hk'
    obtain ⟨k, rfl⟩ : ∃ z, k = z + 1 := ⟨k - 1, by omega⟩
    have hrd : 1300 ≤ rounds ns M := by unfold rounds; omega
    rw [dom_Check.l0, if_pos (by omega), if_pos (by omega), if_pos (by omega), w1 i (by omega), ih (i + 1) k (by omega) (by omega), nodesE_succ]
    obtain ⟨x, hx⟩ : ∃ x, q00 ns (i : Int) = x := ⟨_, rfl⟩
    have hsx := hs (i : Int)
    rw [hx] at hsx
    have eb : (((q00 ns (i : Int)).f0 == 1) != ((i : Int) == 0)) = q1z ns i := by
      unfold q1z
      rw [show ((q00 ns (i : Int)).f0 == 1) = decide ((q00 ns (i : Int)).f0 = 1) from rfl]
      congr 1
      rw [Bool.eq_iff_iff]
      simp
    rw [eb, hx]
    by_cases c : q1z ns i = true
    · rw [if_pos c, if_pos c]; rfl
    · rw [if_neg c, if_neg c, one_eq x hsx.1 hsx.2 k (by omega), Option.bind_some]
      by_cases c2 : q1w x = 0
      · rw [if_pos c2, c2, q26]
      · rw [if_neg c2, orE_ne _ c2, orE_ne _ c2]
theorem ref_nodes (ns : List S43) (q : Bool) (hl : ns.length ≤ 200) (h1 : 0 < ns.length) (M : Nat) (hM : M ≤ 4611686018427387900) (hk : KidsLe ns M) (d : Nat) : ∀ (i k : Nat), i + d = ns.length → 2 * d + rounds ns M < k →
    clerestoryref1_DocErr.l0 k (ns.length : Int) (i : Int) ns q = some (orE (nodesE ns d i) (orE (kidsAll ns) (upsE ns ns.length 0))) := by
  induction d with
  | zero =>
    intro i k h hk'
    obtain ⟨k, rfl⟩ : ∃ z, k = z + 1 := ⟨k - 1, by omega⟩
    unfold rounds at hk'
    rw [clerestoryref1_DocErr.l0, if_neg (by omega)]
    show _ = some (orE 0 _)
    rw [q26]
    have h3 := ref_l3 ns q (by omega) h1 M hM hk (M + 2 * ns.length + 3) (by omega) (upsE ns ns.length 0) (fun hz k hk => ref_ups ns q (by omega) (inR_of hz) ns.length 0 k (by omega) (by omega)) ns.length 0
    have h2 := ref_l1 ns q (by omega) M hM hk (M + 3 * ns.length + 4) (by omega) (orE (q20 ns ns.length 0) (upsE ns ns.length 0)) (fun k hk => h3 k (by omega) rfl (by omega)) ns.length 0 k (by omega) (by omega)
    refine h2.trans ?_
    unfold kidsAll
    by_cases c : kidsL ns ns.length 0 = 0
    · rw [c, q26, q26]
    · rw [orE_ne _ c, orE_ne _ c, orE_ne _ c]
  | succ d ih =>
    intro i k h hk'
    obtain ⟨k, rfl⟩ : ∃ z, k = z + 2 := ⟨k - 2, by omega⟩
    have hrd : 1300 ≤ rounds ns M := by unfold rounds; omega
    obtain ⟨x, hx⟩ : ∃ x, q00 ns (i : Int) = x := ⟨_, rfl⟩
    have hj : clerestoryref1_DocErr.j1 (k + 1) (ns.length : Int) (i : Int) (q1z ns i) ns q = some (orE (nodesE ns (d + 1) i) (orE (kidsAll ns) (upsE ns ns.length 0))) := by
      rw [clerestoryref1_DocErr.j1, nodesE_succ, hx]
      by_cases c : q1z ns i = true
      · rw [if_pos c, if_pos c]; rfl
      · rw [if_neg c, if_neg c, if_pos (by omega), if_pos (by omega), w1 i (by omega), ih (i + 1) k (by omega) (by omega), nodeErr_eq x k (by omega), Option.bind_some]
        by_cases c2 : q1w x = 0
        · rw [if_pos c2, c2, q26]
        · rw [if_neg c2, orE_ne _ c2, orE_ne _ c2]
    rw [clerestoryref1_DocErr.l0, if_pos (by omega)]
    have eb : (((q00 ns (i : Int)).f0) == 1) = decide ((q00 ns (i : Int)).f0 = 1) := rfl
    by_cases c0 : i = 0
    · rw [if_pos (by omega), if_pos (by omega), if_pos (by omega)]
      have er : q1z ns i = !decide ((q00 ns (i : Int)).f0 = 1) := by unfold q1z; rw [decide_eq_true c0]; simp
      by_cases c1 : (q00 ns (i : Int)).f0 = 1
      · rw [if_pos c1, if_neg (by omega)]
        rw [er, decide_eq_true c1] at hj
        exact hj
      · rw [if_neg c1]
        rw [er, decide_eq_false c1] at hj
        exact hj
    · rw [if_neg (by omega), if_pos (by omega), if_pos (by omega), if_pos (by omega)]
      have er : q1z ns i = decide ((q00 ns (i : Int)).f0 = 1) := by unfold q1z; rw [decide_eq_false c0]; simp
      rw [eb, ← er]
      exact hj
theorem check_eq (ns : List S43) (q : Bool) (hs : SmallN ns) (M : Nat) (hM : M ≤ 4611686018427387900) (hk : KidsLe ns M) (k : Nat) (hk' : 2 * ns.length + rounds ns M < k) : dom_Check.f k ns q = some (docE ns) := by
  unfold dom_Check.f docE
  by_cases c : 200 < ns.length
  · rw [if_pos (by omega), if_pos c]
  · rw [if_neg (by omega), if_neg c]
    by_cases c0 : ns.length = 0
    · rw [if_pos (by omega), if_pos c0]
    · rw [if_neg (by omega), if_neg c0]
      exact prog_nodes ns q (by omega) (by omega) hs M hM hk ns.length 0 k (by omega) (by omega)
theorem docErr_eq (ns : List S43) (q : Bool) (M : Nat) (hM : M ≤ 4611686018427387900) (hk : KidsLe ns M) (k : Nat) (hk' : 2 * ns.length + rounds ns M < k) : clerestoryref1_DocErr.f k ns q = some (docE ns) := by
  unfold clerestoryref1_DocErr.f docE
  by_cases c : 200 < ns.length
  · rw [if_pos (by omega), if_pos c]
  · rw [if_neg (by omega), if_neg c]
    by_cases c0 : ns.length = 0
    · rw [if_pos (by omega), if_pos c0]
    · rw [if_neg (by omega), if_neg c0]
      exact ref_nodes ns q (by omega) (by omega) M hM hk ns.length 0 k (by omega) (by omega)
end Go.Proofs.YthjnallbbhnndaaDoor.Dm
namespace Go.Proofs.YthjnallbbhnndaaDoor.Dm
open Go Go.RowKit Go.Proofs.YthjnallbbhnndaaDoor.XDe Go.Proofs.YthjnallbbhnndaaDoorW.PrintWords Go.Proofs.YthjnallbbhnndaaDoorW.PrintLast
structure Tree (ns : List S43) : Prop where
  many : ns.length ≤ 200
  some_ : 0 < ns.length
  root : par ns 0 = -1
  kid : ∀ i c : Int, 0 ≤ i → i < ns.length → c ∈ kidL ns i → 0 ≤ c ∧ c < ns.length ∧ par ns c = i
  once : ∀ i : Int, 0 ≤ i → i < ns.length → (kidL ns i).Nodup
  up : ∀ i : Int, 0 ≤ i → i < ns.length → par ns i = -1 ∨ (0 ≤ par ns i ∧ par ns i < ns.length ∧ i ∈ kidL ns (par ns i))
  deep : ∀ i : Int, 0 ≤ i → i < ns.length → q0m ns i ≤ 40 ∧ q0m ns i ≤ ns.length
theorem mem_hasK (l : List Int) (x : Int) : hasK l x = true ↔ x ∈ l := by
  unfold hasK
  rw [List.any_eq_true]
  constructor
  · rintro ⟨y, hy, h⟩
    obtain rfl := of_decide_eq_true h
    exact hy
  · intro h
    exact ⟨x, h, decide_eq_true rfl⟩
theorem kidsE_once {ns : List S43} {i : Int} : ∀ {l pre : List Int}, kidsE ns i pre l = 0 → l.Nodup ∧ ∀ c ∈ l, hasK pre c = false
  | [], _, _ => ⟨List.nodup_nil, fun c hc => by simp at hc⟩
  | x :: t, pre, h => by
    rw [kidsE_cons] at h
    by_cases hb : q1p ns i pre x = true
    · rw [if_pos hb] at h; cases h
    · rw [if_neg hb] at h
      have hr := kidBad_range hb
      by_cases h7 : i = 0 ∧ (q00 ns x).f0 = 3
      · rw [if_pos h7] at h; cases h
      · rw [if_neg h7] at h
        obtain ⟨h1, h2⟩ := kidsE_once h
        have hx : x ∉ t := fun hx => by
          have := h2 x hx
          rw [(hasK_snoc pre x x).2 (.inl rfl)] at this
          cases this
        refine ⟨List.nodup_cons.2 ⟨hx, h1⟩, fun c hc => ?_⟩
        rcases List.mem_cons.1 hc with rfl | hc
        · exact hr.2.2.2
        · have h3 := h2 c hc
          cases hp : hasK pre c
          · rfl
          · rw [(hasK_snoc pre x c).2 (.inr hp)] at h3
            cases h3
theorem kidsL_ok {ns : List S43} : ∀ {d i : Nat}, kidsL ns d i = 0 → ∀ j : Nat, i ≤ j → j < i + d → kidsE ns (j : Int) [] (kidL ns (j : Int)) = 0
  | 0, i, _, j, h1, h2 => by omega
  | d + 1, i, h, j, h1, h2 => by
    obtain ⟨ha, hb⟩ := orE_eq_zero (show orE (kidsE ns (i : Int) [] (kidL ns (i : Int))) (kidsL ns d (i + 1)) = 0 from h)
    by_cases e : j = i
    · subst e; exact ha
    · exact kidsL_ok hb j (by omega) (by omega)
theorem upsE_ok {ns : List S43} : ∀ {d i : Nat}, upsE ns d i = 0 → ∀ j : Nat, i ≤ j → j < i + d → q0m ns (j : Int) ≤ 40 ∧ q0m ns (j : Int) ≤ ns.length
  | 0, i, _, j, h1, h2 => by omega
  | d + 1, i, h, j, h1, h2 => by
    rw [upsE_succ] at h
    by_cases c : ns.length < q0m ns (i : Int)
    · rw [if_pos c] at h; cases h
    · rw [if_neg c] at h
      by_cases c' : 40 < q0m ns (i : Int)
      · rw [if_pos c'] at h; cases h
      · rw [if_neg c'] at h
        by_cases e : j = i
        · subst e; omega
        · exact upsE_ok h j (by omega) (by omega)
theorem tree_of {ns : List S43} (h : docE ns = 0) : Tree ns := by
  unfold docE at h
  by_cases c : 200 < ns.length
  · rw [if_pos c] at h; cases h
  · rw [if_neg c] at h
    by_cases c0 : ns.length = 0
    · rw [if_pos c0] at h; cases h
    · rw [if_neg c0] at h
      obtain ⟨_, h⟩ := orE_eq_zero h
      obtain ⟨hk, hu⟩ := orE_eq_zero h
      obtain ⟨hk, hp⟩ := orE_eq_zero (show orE (kidsL ns ns.length 0) (q20 ns ns.length 0) = 0 from hk)
      have nat : ∀ i : Int, 0 ≤ i → ((i.toNat : Nat) : Int) = i := fun i h0 => by omega
      refine ⟨by omega, by omega, (parsE_ok hp).1, fun i c h0 h1 hc => ?_, fun i h0 h1 => ?_, fun i h0 h1 => ?_, fun i h0 h1 => ?_⟩
      · have := kidsL_ok hk i.toNat (Nat.zero_le _) (by omega)
        rw [nat i h0] at this
        exact kidsE_ok this c hc
      · have := kidsL_ok hk i.toNat (Nat.zero_le _) (by omega)
        rw [nat i h0] at this
        exact (kidsE_once this).1
      · have := (parsE_ok hp).2 i.toNat (Nat.zero_le _) (by omega)
        rw [nat i h0] at this
        rcases parBad_ok this with h | h
        · exact .inl h
        · exact .inr ⟨h.1, h.2.1, (mem_hasK _ _).1 h.2.2⟩
      · have := upsE_ok hu i.toNat (Nat.zero_le _) (by omega)
        rw [nat i h0] at this
        exact this
theorem deepN_stab (ns : List S43) : ∀ (d : Nat) (i : Int), q1o ns d i < d → q1o ns (d + 1) i = q1o ns d i
  | 0, _, h => absurd h (Nat.not_lt_zero _)
  | d + 1, i, h => by
    rw [show q1o ns (d + 2) i = if par ns i ≥ 0 then 1 + q1o ns (d + 1) (par ns i) else 0 from rfl]
    rw [show q1o ns (d + 1) i = if par ns i ≥ 0 then 1 + q1o ns d (par ns i) else 0 from rfl] at h ⊢
    by_cases c : par ns i ≥ 0
    · rw [if_pos c] at h ⊢
      rw [if_pos c, deepN_stab ns d (par ns i) (by omega)]
    · rw [if_neg c, if_neg c]
theorem deep_up {ns : List S43} (h : Tree ns) {i : Int} (h0 : 0 ≤ i) (h1 : i < ns.length) (hp : 0 ≤ par ns i) : q0m ns i = q0m ns (par ns i) + 1 := by
  have hd := (h.deep i h0 h1).2
  unfold q0m at hd ⊢
  rw [show q1o ns (ns.length + 1) i = if par ns i ≥ 0 then 1 + q1o ns ns.length (par ns i) else 0 from rfl, if_pos hp] at hd ⊢
  rw [deepN_stab ns ns.length (par ns i) (by omega)]
  omega
theorem deep_kid {ns : List S43} (h : Tree ns) {i c : Int} (h0 : 0 ≤ i) (h1 : i < ns.length) (hc : c ∈ kidL ns i) : q0m ns c = q0m ns i + 1 := by
  obtain ⟨c0, c1, cp⟩ := h.kid i c h0 h1 hc
  rw [deep_up h c0 c1 (by omega), cp]
theorem deep_root {ns : List S43} (_h : Tree ns) {i : Int} (hp : par ns i < 0) : q0m ns i = 0 := by
  unfold q0m
  rw [show q1o ns (ns.length + 1) i = if par ns i ≥ 0 then 1 + q1o ns ns.length (par ns i) else 0 from rfl, if_neg (by omega)]
def upN (ns : List S43) : Nat → Int → Int
  | 0, x => x
  | d + 1, x => upN ns d (par ns x)
theorem upN_succ (ns : List S43) : ∀ (d : Nat) (x : Int), upN ns (d + 1) x = par ns (upN ns d x)
  | 0, _ => rfl
  | d + 1, x => upN_succ ns d (par ns x)
def pre (ns : List S43) : Nat → Int → List Int
  | 0, _ => []
  | d + 1, i => i :: (kidL ns i).flatMap (pre ns d)
def sub (ns : List S43) (i : Int) : List Int := pre ns (41 - q0m ns i) i
theorem flatMap_congr {α β : Type} {f g : α → List β} : ∀ {l : List α}, (∀ x ∈ l, f x = g x) → l.flatMap f = l.flatMap g
  | [], _ => rfl
  | x :: t, h => by
    rw [List.flatMap_cons, List.flatMap_cons, h x (by simp), flatMap_congr fun y hy => h y (by simp [hy])]
theorem sub_eq {ns : List S43} (h : Tree ns) {i : Int} (h0 : 0 ≤ i) (h1 : i < ns.length) : sub ns i = i :: (kidL ns i).flatMap (sub ns) := by
  have hd := (h.deep i h0 h1).1
  obtain ⟨m, hm⟩ : ∃ m, 41 - q0m ns i = m + 1 := ⟨40 - q0m ns i, by omega⟩
  have e : sub ns i = i :: (kidL ns i).flatMap (pre ns m) := by unfold sub; rw [hm]; rfl
  rw [e]
  congr 1
  refine flatMap_congr fun c hc => ?_
  unfold sub
  rw [deep_kid h h0 h1 hc, show 41 - (q0m ns i + 1) = m by omega]
theorem sub_mem {ns : List S43} (h : Tree ns) : ∀ (d : Nat) (i : Int), 41 - q0m ns i ≤ d → 0 ≤ i → i < ns.length → ∀ x ∈ sub ns i, 0 ≤ x ∧ x < ns.length ∧ q0m ns i ≤ q0m ns x ∧ upN ns (q0m ns x - q0m ns i) x = i
  | 0, i, hd, h0, h1, x, hx => by
    have := (h.deep i h0 h1).1
    omega
  | d + 1, i, hd, h0, h1, x, hx => by
    rw [sub_eq h h0 h1] at hx
    rcases List.mem_cons.1 hx with rfl | hx
    · exact ⟨h0, h1, Nat.le_refl _, by rw [Nat.sub_self]; rfl⟩
    · obtain ⟨c, hc, hx⟩ := List.mem_flatMap.1 hx
      obtain ⟨c0, c1, cp⟩ := h.kid i c h0 h1 hc
      have hk := deep_kid h h0 h1 hc
      have hdi := (h.deep i h0 h1).1
      obtain ⟨x0, x1, x2, x3⟩ := sub_mem h d c (by omega) c0 c1 x hx
      refine ⟨x0, x1, by omega, ?_⟩
      rw [show q0m ns x - q0m ns i = (q0m ns x - q0m ns c) + 1 by omega, upN_succ, x3, cp]
theorem sub_facts {ns : List S43} (h : Tree ns) {i : Int} (h0 : 0 ≤ i) (h1 : i < ns.length) {x : Int} (hx : x ∈ sub ns i) : 0 ≤ x ∧ x < ns.length ∧ q0m ns i ≤ q0m ns x ∧ upN ns (q0m ns x - q0m ns i) x = i :=
  sub_mem h _ i (Nat.le_refl _) h0 h1 x hx
theorem nodup_flat {f : Int → List Int} : ∀ {l : List Int}, l.Nodup → (∀ c ∈ l, (f c).Nodup) → (∀ c ∈ l, ∀ c' ∈ l, ∀ x, x ∈ f c → x ∈ f c' → c = c') → (l.flatMap f).Nodup
  | [], _, _, _ => List.nodup_nil
  | c :: t, h, hf, hd => by
    rw [List.flatMap_cons]
    obtain ⟨hc, ht⟩ := List.nodup_cons.1 h
    refine List.nodup_append.2 ⟨hf c (by simp), nodup_flat ht (fun y hy => hf y (by simp [hy])) (fun y hy z hz x h1 h2 => hd y (by simp [hy]) z (by simp [hz]) x h1 h2), fun x hx y hy e => ?_⟩
    subst e
    obtain ⟨z, hz, hxz⟩ := List.mem_flatMap.1 hy
    exact hc (hd c (by simp) z (by simp [hz]) x hx hxz ▸ hz)
theorem sub_once {ns : List S43} (h : Tree ns) : ∀ (d : Nat) (i : Int), 41 - q0m ns i ≤ d → 0 ≤ i → i < ns.length → (sub ns i).Nodup
  | 0, i, hd, h0, h1 => by
    have := (h.deep i h0 h1).1
    omega
  | d + 1, i, hd, h0, h1 => by
    rw [sub_eq h h0 h1]
    have hdi := (h.deep i h0 h1).1
    refine List.nodup_cons.2 ⟨fun hi => ?_, nodup_flat (h.once i h0 h1) (fun c hc => ?_) fun c hc c' hc' x hx hx' => ?_⟩
    · obtain ⟨c, hc, hx⟩ := List.mem_flatMap.1 hi
      obtain ⟨c0, c1, _⟩ := h.kid i c h0 h1 hc
      have := (sub_facts h c0 c1 hx).2.2.1
      have := deep_kid h h0 h1 hc
      omega
    · obtain ⟨c0, c1, _⟩ := h.kid i c h0 h1 hc
      exact sub_once h d c (by have := deep_kid h h0 h1 hc; omega) c0 c1
    · obtain ⟨c0, c1, _⟩ := h.kid i c h0 h1 hc
      obtain ⟨c0', c1', _⟩ := h.kid i c' h0 h1 hc'
      have e := (sub_facts h c0 c1 hx).2.2.2
      have e' := (sub_facts h c0' c1' hx').2.2.2
      rw [deep_kid h h0 h1 hc] at e
      rw [deep_kid h h0 h1 hc'] at e'
      exact e.symm.trans e'
theorem sub_nodup {ns : List S43} (h : Tree ns) {i : Int} (h0 : 0 ≤ i) (h1 : i < ns.length) : (sub ns i).Nodup := sub_once h _ i (Nat.le_refl _) h0 h1
theorem few_of : ∀ (n : Nat) (l : List Int), l.Nodup → (∀ x ∈ l, 0 ≤ x ∧ x < n) → l.length ≤ n
  | 0, [], _, _ => Nat.le_refl _
  | 0, x :: t, _, h => by have := h x (by simp); omega
  | n + 1, l, hn, h => by
    have h2 : (l.filter (fun x => decide (x ≠ (n : Int)))).length ≤ n := by
      refine few_of n _ (hn.filter _) fun x hx => ?_
      have hx := List.mem_filter.1 hx
      have := h x hx.1
      have := of_decide_eq_true hx.2
      omega
    have h3 : l.length ≤ (l.filter (fun x => decide (x ≠ (n : Int)))).length + 1 := by
      clear h h2
      induction l with
      | nil => simp
      | cons x t ih =>
        obtain ⟨hx, ht⟩ := List.nodup_cons.1 hn
        by_cases e : x = (n : Int)
        · have : t.filter (fun x => decide (x ≠ (n : Int))) = t := by
            refine List.filter_eq_self.2 fun y hy => decide_eq_true fun e' => hx ?_
            rw [e, ← e']
            exact hy
          rw [List.filter_cons_of_neg (by simp [e]), this]
          simp
        · rw [List.filter_cons_of_pos (by simp [e])]
          have := ih ht
          simp only [List.length_cons]
          omega
    omega
theorem sub_few {ns : List S43} (h : Tree ns) {i : Int} (h0 : 0 ≤ i) (h1 : i < ns.length) : (sub ns i).length ≤ ns.length :=
  few_of _ _ (sub_nodup h h0 h1) fun _ hx => ⟨(sub_facts h h0 h1 hx).1, (sub_facts h h0 h1 hx).2.1⟩
end Go.Proofs.YthjnallbbhnndaaDoor.Dm
namespace Go.Proofs.YthjnallbbhnndaaDoor.Dm
open Go Go.RowKit Go.Proofs.YthjnallbbhnndaaDoor.XDe Go.Proofs.YthjnallbbhnndaaDoorW.PrintWords Go.Proofs.YthjnallbbhnndaaDoorW.PrintLast
def kindN (ns : List S43) (i : Int) : Int := (q00 ns i).f0
structure DocOk (ns : List S43) : Prop where
  many : ns.length ≤ 200
  some_ : 0 < ns.length
  node : ∀ i : Int, 0 ≤ i → i < ns.length → q1w (q00 ns i) = 0
  kind : ∀ i : Int, 0 ≤ i → i < ns.length → (kindN ns i = 1 ↔ i = 0)
  root : par ns 0 = -1
  kid : ∀ i c : Int, 0 ≤ i → i < ns.length → c ∈ kidL ns i → 0 ≤ c ∧ c < ns.length ∧ par ns c = i
  once : ∀ i : Int, 0 ≤ i → i < ns.length → (kidL ns i).Nodup
  text : ∀ c : Int, c ∈ kidL ns 0 → kindN ns c ≠ 3
  up : ∀ i : Int, 0 ≤ i → i < ns.length → par ns i = -1 ∨ (0 ≤ par ns i ∧ par ns i < ns.length ∧ i ∈ kidL ns (par ns i))
  deep : ∀ i : Int, 0 ≤ i → i < ns.length → q0m ns i ≤ 40 ∧ q0m ns i ≤ ns.length
theorem DocOk.tree {ns : List S43} (h : DocOk ns) : Tree ns := ⟨h.many, h.some_, h.root, h.kid, h.once, h.up, h.deep⟩
theorem orE_iff {a b : Int} : orE a b = 0 ↔ a = 0 ∧ b = 0 := ⟨orE_eq_zero, fun h => by rw [h.1, q26, h.2]⟩
theorem rootBad_iff (ns : List S43) (i : Nat) : q1z ns i = false ↔ (kindN ns (i : Int) = 1 ↔ (i : Int) = 0) := by
  unfold q1z kindN
  by_cases h1 : (q00 ns (i : Int)).f0 = 1 <;> by_cases h2 : i = 0 <;> simp [h1, h2]
theorem nodesE_iff (ns : List S43) : ∀ d i : Nat, nodesE ns d i = 0 ↔ ∀ j : Nat, i ≤ j → j < i + d → q1z ns j = false ∧ q1w (q00 ns (j : Int)) = 0
  | 0, i => ⟨fun _ j h1 h2 => by omega, fun _ => rfl⟩
  | d + 1, i => by
    rw [nodesE_succ]
    cases c : q1z ns i with
    | true =>
      rw [if_pos rfl]
      refine ⟨fun h => (by cases h), fun h => ?_⟩
      have := (h i (Nat.le_refl _) (by omega)).1
      rw [c] at this
      cases this
    | false =>
      rw [if_neg (by decide), orE_iff, nodesE_iff ns d (i + 1)]
      refine ⟨fun h j h1 h2 => ?_, fun h => ⟨(h i (Nat.le_refl _) (by omega)).2, fun j h1 h2 => h j (by omega) (by omega)⟩⟩
      by_cases e : j = i
      · subst e; exact ⟨c, h.1⟩
      · exact h.2 j (by omega) (by omega)
theorem hasK_false (l : List Int) (x : Int) : hasK l x = false ↔ x ∉ l := by rw [← mem_hasK]; simp
theorem kidBad_false (ns : List S43) (i : Int) (pre : List Int) (c : Int) : q1p ns i pre c = false ↔ 0 ≤ c ∧ c < ns.length ∧ par ns c = i ∧ c ∉ pre := by
  rw [← hasK_false]
  unfold q1p
  simp [Int.not_lt]
theorem kidsE_iff (ns : List S43) (i : Int) : ∀ l pre : List Int, kidsE ns i pre l = 0 ↔ (∀ c ∈ l, 0 ≤ c ∧ c < ns.length ∧ par ns c = i ∧ c ∉ pre ∧ (i = 0 → kindN ns c ≠ 3)) ∧ l.Nodup
  | [], pre => ⟨fun _ => ⟨fun c hc => by simp at hc, List.nodup_nil⟩, fun _ => rfl⟩
  | x :: t, pre => by
    rw [kidsE_cons]
    cases hb : q1p ns i pre x with
    | true =>
      rw [if_pos rfl]
      refine ⟨fun h => (by cases h), fun h => ?_⟩
      have h1 := h.1 x (by simp)
      have := (kidBad_false ns i pre x).2 ⟨h1.1, h1.2.1, h1.2.2.1, h1.2.2.2.1⟩
      rw [hb] at this
      cases this
    | false =>
      have hk := (kidBad_false ns i pre x).1 hb
      rw [if_neg (by decide)]
      by_cases h7 : i = 0 ∧ (q00 ns x).f0 = 3
      · rw [if_pos h7]
        exact ⟨fun h => (by cases h), fun h => absurd h7.2 ((h.1 x (by simp)).2.2.2.2 h7.1)⟩
      · rw [if_neg h7, kidsE_iff ns i t (pre ++ [x]), List.nodup_cons]
        constructor
        · rintro ⟨h1, h2⟩
          refine ⟨fun c hc => ?_, fun hx => ?_, h2⟩
          · rcases List.mem_cons.1 hc with rfl | hc
            · exact ⟨hk.1, hk.2.1, hk.2.2.1, hk.2.2.2, fun e h3 => h7 ⟨e, h3⟩⟩
            · have := h1 c hc
              exact ⟨this.1, this.2.1, this.2.2.1, fun hp => this.2.2.2.1 (List.mem_append_left _ hp), this.2.2.2.2⟩
          · exact (h1 x hx).2.2.2.1 (by simp)
        · rintro ⟨h1, hx, h2⟩
          refine ⟨fun c hc => ?_, h2⟩
          have := h1 c (by simp [hc])
          refine ⟨this.1, this.2.1, this.2.2.1, fun hp => ?_, this.2.2.2.2⟩
          rcases List.mem_append.1 hp with hp | hp
          · exact this.2.2.2.1 hp
          · rw [List.mem_singleton] at hp
            subst hp
            exact hx hc
theorem kidsL_iff (ns : List S43) : ∀ d i : Nat, kidsL ns d i = 0 ↔ ∀ j : Nat, i ≤ j → j < i + d → kidsE ns (j : Int) [] (kidL ns (j : Int)) = 0
  | 0, i => ⟨fun _ j h1 h2 => by omega, fun _ => rfl⟩
  | d + 1, i => by
    rw [show kidsL ns (d + 1) i = orE (kidsE ns (i : Int) [] (kidL ns (i : Int))) (kidsL ns d (i + 1)) from rfl, orE_iff, kidsL_iff ns d (i + 1)]
    refine ⟨fun h j h1 h2 => ?_, fun h => ⟨h i (Nat.le_refl _) (by omega), fun j h1 h2 => h j (by omega) (by omega)⟩⟩
    by_cases e : j = i
    · subst e; exact h.1
    · exact h.2 j (by omega) (by omega)
theorem parsE_iff (ns : List S43) : ∀ d i : Nat, q20 ns d i = 0 ↔ par ns 0 = -1 ∧ ∀ j : Nat, i ≤ j → j < i + d → q1q ns (j : Int) = false
  | 0, i => by
    show (if par ns 0 = -1 then (0 : Int) else 3) = 0 ↔ _
    by_cases c : par ns 0 = -1
    · rw [if_pos c]
      exact ⟨fun _ => ⟨c, fun j h1 h2 => by omega⟩, fun _ => rfl⟩
    · rw [if_neg c]
      exact ⟨fun h => (by cases h), fun h => absurd h.1 c⟩
  | d + 1, i => by
    rw [show q20 ns (d + 1) i = if q1q ns (i : Int) = true then 3 else q20 ns d (i + 1) from rfl]
    cases c : q1q ns (i : Int) with
    | true =>
      rw [if_pos rfl]
      refine ⟨fun h => (by cases h), fun h => ?_⟩
      have := h.2 i (Nat.le_refl _) (by omega)
      rw [c] at this
      cases this
    | false =>
      rw [if_neg (by decide), parsE_iff ns d (i + 1)]
      refine ⟨fun h => ⟨h.1, fun j h1 h2 => ?_⟩, fun h => ⟨h.1, fun j h1 h2 => h.2 j (by omega) (by omega)⟩⟩
      by_cases e : j = i
      · subst e; exact c
      · exact h.2 j (by omega) (by omega)
theorem parBad_false (ns : List S43) (i : Int) : q1q ns i = false ↔ par ns i = -1 ∨ (0 ≤ par ns i ∧ par ns i < ns.length ∧ i ∈ kidL ns (par ns i)) := by
  rw [← mem_hasK]
  unfold q1q
  by_cases c : par ns i = -1
  · simp [c]
  · simp [c]
theorem upsE_iff (ns : List S43) : ∀ d i : Nat, upsE ns d i = 0 ↔ ∀ j : Nat, i ≤ j → j < i + d → q0m ns (j : Int) ≤ 40 ∧ q0m ns (j : Int) ≤ ns.length
  | 0, i => ⟨fun _ j h1 h2 => by omega, fun _ => rfl⟩
  | d + 1, i => by
    rw [upsE_succ]
    by_cases c : ns.length < q0m ns (i : Int)
    · rw [if_pos c]
      refine ⟨fun h => (by cases h), fun h => ?_⟩
      have := h i (Nat.le_refl _) (by omega)
      omega
    · rw [if_neg c]
      by_cases c' : 40 < q0m ns (i : Int)
      · rw [if_pos c']
        refine ⟨fun h => (by cases h), fun h => ?_⟩
        have := h i (Nat.le_refl _) (by omega)
        omega
      · rw [if_neg c', upsE_iff ns d (i + 1)]
        refine ⟨fun h j h1 h2 => ?_, fun h j h1 h2 => h j (by omega) (by omega)⟩
        by_cases e : j = i
        · subst e; omega
        · exact h j (by omega) (by omega)
theorem docE_iff (ns : List S43) : docE ns = 0 ↔ DocOk ns := by
  have nat : ∀ i : Int, 0 ≤ i → ((i.toNat : Nat) : Int) = i := fun i h0 => by omega
  constructor
  · intro h
    have ht := tree_of h
    unfold docE at h
    rw [if_neg (by have := ht.many; omega), if_neg (by have := ht.some_; omega), orE_iff, orE_iff] at h
    obtain ⟨hn, hk, hu⟩ := h
    obtain ⟨hk, hp⟩ := orE_iff.1 (show orE (kidsL ns ns.length 0) (q20 ns ns.length 0) = 0 from hk)
    have hn := (nodesE_iff ns _ _).1 hn
    have hk := (kidsL_iff ns _ _).1 hk
    refine ⟨ht.many, ht.some_, fun i h0 h1 => ?_, fun i h0 h1 => ?_, ht.root, ht.kid, ht.once, fun c hc => ?_, ht.up, ht.deep⟩
    · have := (hn i.toNat (Nat.zero_le _) (by omega)).2
      rwa [nat i h0] at this
    · have := (rootBad_iff ns i.toNat).1 (hn i.toNat (Nat.zero_le _) (by omega)).1
      rwa [nat i h0] at this
    · have := hk 0 (Nat.le_refl _) (by have := ht.some_; omega)
      exact (((kidsE_iff ns _ _ _).1 this).1 c hc).2.2.2.2 rfl
  · intro h
    unfold docE
    rw [if_neg (by have := h.many; omega), if_neg (by have := h.some_; omega), orE_iff, orE_iff]
    refine ⟨(nodesE_iff ns _ _).2 fun j _ hj => ⟨(rootBad_iff ns j).2 (h.kind j (by omega) (by omega)), h.node j (by omega) (by omega)⟩, orE_iff.2 ⟨(kidsL_iff ns _ _).2 fun j _ hj => (kidsE_iff ns _ _ _).2 ⟨fun c hc => ?_, h.once j (by omega) (by omega)⟩, (parsE_iff ns _ _).2 ⟨h.root, fun j _ hj => (parBad_false ns j).2 (h.up j (by omega) (by omega))⟩⟩, (upsE_iff ns _ _).2 fun j _ hj => h.deep j (by omega) (by omega)⟩
    obtain ⟨c0, c1, c2⟩ := h.kid j c (by omega) (by omega) hc
    refine ⟨c0, c1, c2, by simp, fun e => ?_⟩
    rw [e] at hc
    exact h.text c hc
theorem deep_rank {ns : List S43} (r : Int → Nat) (hup : ∀ i : Int, 0 ≤ i → i < ns.length → par ns i < 0 ∧ r i = 0 ∨ 0 ≤ par ns i ∧ par ns i < ns.length ∧ r i = r (par ns i) + 1) :
    ∀ (d : Nat) (i : Int), 0 ≤ i → i < ns.length → r i ≤ d → q1o ns d i = r i
  | 0, i, _, _, h => by
    show 0 = r i
    omega
  | d + 1, i, h0, h1, h => by
    show (if par ns i ≥ 0 then 1 + q1o ns d (par ns i) else 0) = r i
    rcases hup i h0 h1 with ⟨hp, hr⟩ | ⟨hp, hp1, hr⟩
    · rw [if_neg (by omega), hr]
    · rw [if_pos hp, deep_rank r hup d (par ns i) hp hp1 (by omega), hr]
      omega
theorem rank_few {ns : List S43} (r : Int → Nat) (hup : ∀ i : Int, 0 ≤ i → i < ns.length → par ns i < 0 ∧ r i = 0 ∨ 0 ≤ par ns i ∧ par ns i < ns.length ∧ r i = r (par ns i) + 1) {i : Int} (h0 : 0 ≤ i) (h1 : i < ns.length) : r i < ns.length := by
  have ch : ∀ (d : Nat) (i : Int), r i = d → 0 ≤ i → i < ns.length → ∃ l : List Int, l.length = d + 1 ∧ l.Nodup ∧ ∀ x ∈ l, 0 ≤ x ∧ x < ns.length ∧ r x ≤ d := by
    intro d
    induction d with
    | zero => intro i hr h0 h1; exact ⟨[i], rfl, by simp, fun x hx => by rw [List.mem_singleton] at hx; subst hx; omega⟩
    | succ d ih =>
      intro i hr h0 h1
      rcases hup i h0 h1 with ⟨_, h⟩ | ⟨hp, hp1, h⟩
      · omega
      · obtain ⟨l, hl, hn, hx⟩ := ih (par ns i) (by omega) hp hp1
        refine ⟨i :: l, by simp [hl], List.nodup_cons.2 ⟨fun hi => ?_, hn⟩, fun x hx' => ?_⟩
        · have := (hx i hi).2.2
          omega
        · rcases List.mem_cons.1 hx' with rfl | hx'
          · omega
          · have := hx x hx'
            omega
  obtain ⟨l, hl, hn, hx⟩ := ch (r i) i rfl h0 h1
  have := few_of ns.length l hn fun x hx' => ⟨(hx x hx').1, (hx x hx').2.1⟩
  omega
theorem deep_of_rank {ns : List S43} (r : Int → Nat) (hup : ∀ i : Int, 0 ≤ i → i < ns.length → par ns i < 0 ∧ r i = 0 ∨ 0 ≤ par ns i ∧ par ns i < ns.length ∧ r i = r (par ns i) + 1) {i : Int} (h0 : 0 ≤ i) (h1 : i < ns.length) : q0m ns i = r i ∧ q0m ns i < ns.length := by
  have h2 := rank_few r hup h0 h1
  have h3 := deep_rank r hup (ns.length + 1) i h0 h1 (by omega)
  unfold q0m
  omega
theorem Tree.rank {ns : List S43} (h : Tree ns) : ∀ i : Int, 0 ≤ i → i < ns.length → par ns i < 0 ∧ q0m ns i = 0 ∨ 0 ≤ par ns i ∧ par ns i < ns.length ∧ q0m ns i = q0m ns (par ns i) + 1 := by
  intro i h0 h1
  rcases h.up i h0 h1 with hp | ⟨hp, hp1, _⟩
  · exact .inl ⟨by omega, deep_root h (by omega)⟩
  · exact .inr ⟨hp, hp1, deep_up h h0 h1 hp⟩
end Go.Proofs.YthjnallbbhnndaaDoor.Dm
namespace Go.Proofs.YthjnallbbhnndaaDoor.XDe
open Go.Proofs.YthjnallbbhnndaaDoor.Short Go.RowKit Go.Proofs.YthjnallbbhnndaaDoorW.PrintWords Go.Proofs.YthjnallbbhnndaaDoorW.PrintLast Go.Proofs.YthjnallbbhnndaaDoorW.PrintMore
attribute [local go_sem] q16 q14 q1g q1f q0s q0r q15 q13   -- for this text's walks alone
set_option linter.unusedVariables false
set_option linter.unusedSimpArgs false
theorem eqA122 (d : Nat) (w : World) (x0 y0 : ByteArray) (x1 y1 : ByteArray) :
 (Op.equalIn (d + 2) 122 (.agg #[.string x0, .string x1]) (.agg #[.string y0, .string y1])).run Tryd.prog w = .ok (x0.toList == y0.toList && (x1.toList == y1.toList)) w := by
 refine eqA_of Tryd.underlying122 (by kernel_rfl) ?_
 refine eqf_cons (by rfl) (by go_simp; rfl) (by go_simp; rfl) (by go_simp) ?_
 exact eqf_last (by rfl) (by go_simp; rfl) (by go_simp; rfl) (by go_simp)
end Go.Proofs.YthjnallbbhnndaaDoor.XDe
