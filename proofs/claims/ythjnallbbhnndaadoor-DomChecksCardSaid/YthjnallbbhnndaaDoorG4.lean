/- Written by this session's program (wip/xp) out of the translation as Lean prints it: for each Go function a Lean function and the proof that the code answers just so, on the conditions named in each statement. -/
import Derived.Test.YthjnallbbhnndaaDoorG3
import Derived.Test.YthjnallbbhnndaaDoorRows
import Derived.Test.YthjnallbbhnndaaDoorChecked
import Derived.Lib.LaidIn
import Derived.Lib.LaidU8T
import Derived.Deep.DeepHandedRow
import Derived.Deep.DeepWitnessRowRef
namespace Go.Proofs.YthjnallbbhnndaaDoor.XDb
open Go.Proofs.YthjnallbbhnndaaDoor.Short Go.RowKit Go.Proofs.YthjnallbbhnndaaDoorW.PrintWords Go.Proofs.YthjnallbbhnndaaDoorW.PrintLast Go.Proofs.YthjnallbbhnndaaDoorW.PrintMore
attribute [local go_sem] q17 q15 q1j q1i q0w q0v q16 q14   -- for this text's walks alone
set_option linter.unusedVariables false
set_option linter.unusedSimpArgs false
attribute [local go_sem high] eqA122
theorem at_T43_kept {w W1 : World} {S : Nat → Prop} {A : Option Addr} {n : Nat} {xs : List S43} (h : ∀ W', Kept w W' S → Kd.C k43 W' A n xs) (hk1 : Kept w W1 S) (i : Int) (h0 : 0 ≤ i) (h1 : i < n) : ∃ ad A2 c2 A5 c5, A = some ad ∧ W1.cell? (ad.add (i.toNat * 6)) = some (.int .i64 (q00 xs i).f0) ∧ W1.cell? ⟨(ad.add (i.toNat * 6)).block, (ad.add (i.toNat * 6)).off + 1, none⟩ = some (.string (q00 xs i).f1) ∧ W1.cell? ⟨(ad.add (i.toNat * 6)).block, (ad.add (i.toNat * 6)).off + 2, none⟩ = some (.slice A2 (q00 xs i).f2.length c2) ∧ W1.cell? ⟨(ad.add (i.toNat * 6)).block, (ad.add (i.toNat * 6)).off + 3, none⟩ = some (.string (q00 xs i).f3) ∧ W1.cell? ⟨(ad.add (i.toNat * 6)).block, (ad.add (i.toNat * 6)).off + 4, none⟩ = some (.int .i64 (q00 xs i).f4) ∧ W1.cell? ⟨(ad.add (i.toNat * 6)).block, (ad.add (i.toNat * 6)).off + 5, none⟩ = some (.slice A5 (q00 xs i).f5.length c5) ∧ (q00 xs i).f2.length ≤ c2 ∧ (∀ W', Kept w W' S → k122.C W' A2 (q00 xs i).f2.length (q00 xs i).f2) ∧ (q00 xs i).f5.length ≤ c5 ∧ (∀ W', Kept w W' S → (Kd.int .i64).C W' A5 (q00 xs i).f5.length (q00 xs i).f5) := by
 obtain ⟨ad, A2, c2, A5, c5, e, x0, x1, x2, x3, x4, x5, l2, _, l5, _⟩ := at_T43 (h W1 hk1) i h0 h1
 subst e
 have hn := Kd.foot_neS h (by omega) (by decide)
 have hlt := Kd.foot_ltS h (by omega) (by decide)
 have same : ∀ (W' : World), Kept w W' S → ∀ (a : Addr) (v : Value), a.block = ad.block → W1.cell? a = some v → W'.cell? a = some v := by
  intro W' hk a v ha hv
  unfold World.cell? at hv ⊢
  rw [ha] at hv ⊢
  rw [hk.2 _ hlt hn, ← hk1.2 _ hlt hn]
  exact hv
 refine ⟨ad, A2, c2, A5, c5, rfl, x0, x1, x2, x3, x4, x5, l2, fun W' hk => ?_, l5, fun W' hk => ?_⟩
 ·obtain ⟨ad', A2', c2', A5', c5', e, _, _, y2, _, _, _, _, g2, _, _⟩ := at_T43 (h W' hk) i h0 h1
  injection e with e
  subst e
  rw [same W' hk ⟨(ad.add (i.toNat * 6)).block, (ad.add (i.toNat * 6)).off + 2, none⟩ _ (q0l _ _) x2] at y2
  injection y2 with y2
  injection y2 with y2
  rw [y2]
  exact g2
 ·obtain ⟨ad', A2', c2', A5', c5', e, _, _, _, _, _, y5, _, _, _, g5⟩ := at_T43 (h W' hk) i h0 h1
  injection e with e
  subst e
  rw [same W' hk ⟨(ad.add (i.toNat * 6)).block, (ad.add (i.toNat * 6)).off + 5, none⟩ _ (q0l _ _) x5] at y5
  injection y5 with y5
  injection y5 with y5
  rw [y5]
  exact g5
mutual
def dom_walk.l0 : Nat → List Int → List Int → Int → Int → List (S43) → Bool → Option (List Int)
 | 0, _, _, _, _, _, _ => none
 | k + 1, x2, x18, x19, x20, x197000, x197001 => if x20 < x19 then (if 0 ≤ x20 then (if x20 < (x18.length : Int) then ((dom_walk.f k x197000 x197001 (rd x18 x20) x2).bind fun t202 => (dom_walk.l0 k t202 x18 x19 (wrap64 (x20 + 1)) x197000 x197001)) else (none)) else (none)) else (some x2)
def dom_walk.f : Nat → List (S43) → Bool → Int → List Int → Option (List Int)
 | 0, _, _, _, _ => none
 | k + 1, l0_0, a0_1, a1, l2 => if l2.length < 17592186044416 then (if 0 ≤ a1 then (if a1 < (l0_0.length : Int) then (dom_walk.l0 k (l2 ++ [a1]) ((q00 l0_0 a1).f5) (((q00 l0_0 a1).f5).length : Int) 0 l0_0 a0_1) else (none)) else (none)) else (none)
end
theorem dom_walk.mono_l : ∀ k, (∀ y0 y1 y2 y3, LeO (dom_walk.f k y0 y1 y2 y3) (dom_walk.f (k + 1) y0 y1 y2 y3)) ∧ (∀ y0 y1 y2 y3 y4 y5, LeO (dom_walk.l0 k y0 y1 y2 y3 y4 y5) (dom_walk.l0 (k + 1) y0 y1 y2 y3 y4 y5))
 | 0 => ⟨fun _ _ _ _ r h => by simp [dom_walk.f] at h, fun _ _ _ _ _ _ r h => by simp [dom_walk.l0] at h⟩
 | k + 1 => by
  obtain ⟨ih0, ih1⟩ := dom_walk.mono_l k
  refine ⟨?_, ?_⟩
  all_goals intros
  all_goals (first | unfold dom_walk.f | unfold dom_walk.l0)
  all_goals (repeat' first | with_reducible first | apply ih0 | apply ih1 | exact LeO.refl _ | exact LeO.none _ | refine LeO.ite ?_ ?_ | refine LeO.bind ?_ (fun _ => ?_) | (first | apply ih0 | apply ih1 | exact LeO.none _ | refine LeO.ite ?_ ?_ | refine LeO.bind ?_ (fun _ => ?_)))
theorem dom_walk.mono : ∀ a0 a1 a2 a3 k, LeO (dom_walk.f k a0 a1 a2 a3) (dom_walk.f (k + 1) a0 a1 a2 a3) := by
 intro a0 a1 a2 a3 k
 obtain ⟨ih0, ih1⟩ := dom_walk.mono_l k
 exact ih0 a0 a1 a2 a3
set_option maxHeartbeats 8000000 in
set_option maxRecDepth 100000 in
theorem dom_walk.calls (k : Nat) : ∀ (A0_0 : Option Addr) (c0_0 : Nat) (l0_0 : List (S43)) (a0_1 : Bool) (a1 : Int) (P2_ : Nat → Prop) (u9000_ : Value) (l2 : List Int) (r : List Int) (w0 w : World) (hB : Below w0.heap.size w0 w) (hr0_0 : ∀ W_, Kept w W_ (fun k_ => P2_ k_) → Kd.C k43 W_ A0_0 l0_0.length l0_0) (hc0_0 : l0_0.length ≤ c0_0) (ho2 : Kd.R (Kd.int .i64) 3 w w0.heap.size P2_ u9000_ l2) (h : dom_walk.f k l0_0 a0_1 a1 l2 = some r),
 Calls Tryd.prog 109 #[.agg #[.slice A0_0 l0_0.length c0_0, .bool a0_1], .int .i64 a1, u9000_] w fun e w' => ∃ v0_ : Value, e = .returned (v0_) ∧ Kd.R (Kd.int .i64) 3 w' w0.heap.size (fun k_ => (P2_ k_ ∨ w.heap.size ≤ k_)) v0_ r ∧ Below w0.heap.size w0 w' ∧ Kept w w' (fun k_ => P2_ k_) := by
 induction k using Nat.strongRecOn with
 | _ k ih =>
 intro A0_0 c0_0 l0_0 a0_1 a1 P2_ u9000_ l2 r w0 w hB hr0_0 hc0_0 ho2 h
 cases k with
 | zero => exact absurd h (by simp [dom_walk.f])
 | succ k =>
 simp only [dom_walk.f] at h
 have hu24 := Tryd.underlying24
 have HR0_0 := aS hr0_0
 have HC0_0 := aS hc0_0
 clear hr0_0 hc0_0
 have HO2 := aS (show Kd.R (Kd.int .i64) 3 w w0.heap.size (fun k_ => (P2_ k_ ∨ w.heap.size ≤ k_)) u9000_ l2 from Kd.R_mono ho2 (fun k_ hk => (.inl hk)))
 have HK := aS (Kept.refl w (fun k_ => P2_ k_))
 have HW0 := aS hB.size
 have HB := aS hB
 clear hB
 have H := h; clear h; unfold dom_walk.f at H
 refine iGp H ?_; clear H; intro c4 H
 have LMc4 := aS c4
 clear c4
 obtain ⟨y197, hy197⟩ : ∃ y_ : List Int, y_ = (l2 ++ [a1]) := ⟨_, rfl⟩
 replace H : (if 0 ≤ a1 then (if a1 < (l0_0.length : Int) then (dom_walk.l0 k y197 ((q00 l0_0 a1).f5) (((q00 l0_0 a1).f5).length : Int) 0 l0_0 a0_1) else (none)) else (none)) = some r := by first | (rw [hy197]; with_reducible exact H) | (have H2_ := (Option.bind_some _ _).symm.trans H; rw [hy197]; with_reducible exact H2_) | (have H2_ := (Option.bind_some _ _).symm.trans H; with_reducible exact H2_) | with_reducible exact H | (rw [hy197]; exact H) | exact H
 have Ny197 := aS hy197
 clear hy197
 refine iLp H ?_; clear H; intro c5b0 H
 refine iTp H ?_; clear H; intro c6b0 H
 have H' := aS H
 clear H
 go_enter Tryd.func109, Tryd.ntmps109
 go_wp2_with (first | ((with_reducible refine q06 (N := 3) rfl ?_); refine q0i ?hg (N := 3) ?hd (cs := #[.slice A0_0 l0_0.length c0_0, .bool a0_1]) (t := 24) ?hr ?_; (case hd => rfl); (case hg => rfl); (case hr => first | (go_simp; done) | (go_simp; rfl)); intro gb196 hg w7 hbox hb; have n0_ := aS (Kd.R_below (by (with_reducible repeat (first | apply rA | apply rN | apply rD)); exact HO2.out) hb); have n1_ := aS (Kept.below (S := (fun k_ => P2_ k_)) (by repeat (first | (with_reducible first | exact HK.out | apply Kept.alloc | apply Kept.drewN | apply Kept.drew) | exact HK.out)) hb); have n2_ := aS (q01 (by repeat (first | (with_reducible first | exact HB.out | apply bA | apply bN | apply bD) | exact HB.out)) hb); have n3_ := aS (hbox); have n4_ := aS ((by rw [hg]; exact (by first | exact HK.out.1 | exact (show Kept w _ (fun k_ => P2_ k_) from by repeat (first | (with_reducible first | exact HK.out | apply Kept.alloc | apply Kept.drewN | apply Kept.drew) | exact HK.out)).1) : w.heap.size ≤ gb196)); have n5_ := aS ((by rw [hg]; exact (q07 (by repeat (first | (with_reducible first | exact HB.out | apply bA | apply bN | apply bD) | exact HB.out))) : w0.heap.size ≤ gb196)); clear HO2; clear HK; clear HB; have HO2 := n0_; have HK := n1_; have HB := n2_; have BK196 := n3_; have GW196 := n4_; have GE196 := n5_; clear n0_ n1_ n2_ n3_ n4_ n5_; clear hb hbox hg) | ((with_reducible refine gate_builtin (b := .append) (xs := #[.tmp 9, .tmp 11]) rfl ?_); at_builtin; refine Kd.R_append (Kd.int .i64) (w0 := w0) w0.heap.size rfl (.tmp 9) (.tmp 11) 31 3 (.int .i64 0) 8 rfl Tryd.underlying31 info3 rfl (by decide) (by omega) u9000_ l2 a1 [.int .i64 a1] (fun k_ => (P2_ k_ ∨ w.heap.size ≤ k_)) (fun _ => False) rfl rfl ?aP (fun _ hk => hk.elim) ?aF ?aO ?aB ?aS ?aL ?_; (case aP => exact rfl); (case aB => exact (by repeat (first | (with_reducible first | exact HB.out | apply bA | apply bN | apply bD | refine bS ?_ GE196.out) | exact HB.out))); (case aF => exact (fun k_ hk => (.inr (Nat.le_trans (by first | exact HK.out.1 | exact (show Kept w _ (fun k_ => P2_ k_) from by repeat (first | (with_reducible first | exact HK.out | apply Kept.alloc | apply Kept.drewN | apply Kept.drew | refine Kept.setCell ?_ (.inr GW196.out) _) | exact HK.out)).1) hk)))); (case aO => exact (by (with_reducible repeat (first | apply rA | apply rN | apply rD)); exact HO2.out)); (case aS => exact (q07 (by repeat (first | (with_reducible first | exact HB.out | apply bA | apply bN | apply bD | refine bS ?_ GE196.out) | exact HB.out)))); (case aL => have := LMc4.out; omega); intro v198 w8 ho hb hg hat; rw [← Ny197.out] at ho; have n0_ := aS (blk_grown (g := gb196) (o := .cells #[.slice A0_0 l0_0.length c0_0, .bool a0_1] 24 (0, 0)) (by (with_reducible repeat (first | refine kN ?_ _ | refine kD ?_ | refine kA ?_ _)); exact BK196.out) hg (Kd.R_ne HO2.out BK196.out (by decide))); have n1_ := aS (hb); have n2_ := aS (Kept.of_grown (S := (fun k_ => P2_ k_)) hg (by repeat (first | (with_reducible first | exact HK.out | apply Kept.alloc | apply Kept.drewN | apply Kept.drew | refine Kept.setCell ?_ (.inr GW196.out) _) | exact HK.out)) (fun k_ e_ => (HO2.out.1 k_ e_))); have n3_ := aS (ho); clear BK196; clear HB; clear HK; clear HO2; have BK196 := n0_; have HB := n1_; have HK := n2_; have HO199 := n3_; clear n0_ n1_ n2_ n3_; clear ho hb hg hat; obtain ⟨hczL_0, hczL_1, hfzL_0, hfzL_1⟩ := bk2 BK196.out; have p200 : 0 ≤ (a1 : Int) := od (by first | (with_reducible assumption) | assumption); have q200 : a1 < (l0_0.length : Int) := od (by first | (with_reducible assumption) | assumption); obtain ⟨ad200, A200_2, c200_2, A200_5, c200_5, e200, hx200_0, hx200_1, hx200_2, hx200_3, hx200_4, hx200_5, hl200_2, hi200_2, hl200_5, hi200_5⟩ := at_T43_kept HR0_0.out HK.out a1 p200 q200; cases e200; have HR200_2 := aS hi200_2; have HC200_2 := aS hl200_2; clear hi200_2 hl200_2; have HR200_5 := aS hi200_5; have HC200_5 := aS hl200_5; clear hi200_5 hl200_5; replace p200 := eq_true p200; replace q200 := eq_true q200))
 go_loopg [2, 20] k (fun kq v2 v20 w' => ∃ (x2_1 : List Int) (x20_1 : Int), v20 = .int .i64 x20_1 ∧ Aside0 (dom_walk.l0 kq x2_1 ((q00 l0_0 a1).f5) (((q00 l0_0 a1).f5).length : Int) x20_1 l0_0 a0_1 = some r) ∧ Aside0 (kq ≤ k) ∧ Aside0 (Kd.R (Kd.int .i64) 3 w' w0.heap.size (fun k_ => (P2_ k_ ∨ w.heap.size ≤ k_)) v2 x2_1) ∧ Aside0 (w'.heap[gb196]? = some (.cells #[(.slice (some ad200) l0_0.length c0_0), .bool a0_1] 24 (0, 0))) ∧ Aside0 (Kept w w' (fun k_ => P2_ k_)) ∧ Aside0 (Below w0.heap.size w0 w'))
 case atStart => exact ⟨(y197), (0), (by first | rfl | (simp; done) | simp [*]), H', ⟨Nat.le_refl _⟩, ⟨by (with_reducible repeat (first | apply rA | apply rN | apply rD)); exact HO199.out⟩, ⟨by (with_reducible repeat (first | refine kN ?_ _ | refine kD ?_ | refine kA ?_ _)); exact BK196.out⟩, ⟨by repeat (first | (with_reducible first | exact HK.out | apply Kept.alloc | apply Kept.drewN | apply Kept.drew | refine Kept.setCell ?_ (.inr GW196.out) _) | exact HK.out)⟩, ⟨by repeat (first | (with_reducible first | exact HB.out | apply bA | apply bN | apply bD | refine bS ?_ GE196.out) | exact HB.out)⟩⟩
 case round =>
  clear H'
  obtain ⟨x2_1, x20_1, rfl, HA, HK1, HO_2, BK196, HK, HB⟩ := hrel
  cases gk with
  | zero => exact absurd HA.out (by simp [dom_walk.l0])
  | succ k1 =>
   have H := HA.out
   clear HA
   simp only [dom_walk.l0] at H
   refine iT H ?p10 ?n10 <;> clear H
   case' p10 => intro c10b0 H; refine iLp H ?_; clear H; intro c11b0 H; refine iTp H ?_; clear H; intro c12b0 H
   case' n10 => intro c10b0 H
   case p10 =>
    replace H := iB H
    obtain ⟨t202, A13, H⟩ := H
    have H' := aS H
    clear H
    obtain ⟨ad201, e201, hx201_0, p201, q201⟩ := atIA (HR200_5.out _ HK.out) x20_1 (by first | with_reducible assumption | assumption) (by first | with_reducible assumption | assumption)
    cases e201
    obtain ⟨hczL_0, hczL_1, hfzL_0, hfzL_1⟩ := bk2 BK196.out
    obtain ⟨Ao15, co15, eo15⟩ := Kd.R_slice HO_2.out
    subst eo15
    go_wp2_with (first | ((with_reducible refine q09 (f := 109) rfl ?_); refine q0n (some 27) rfl rfl Tryd.func109 (by kernel_rfl) rfl #[.agg #[.slice (some ad200) l0_0.length c0_0, .bool a0_1], .int .i64 (rd ((q00 l0_0 a1).f5) x20_1), .slice Ao15 x2_1.length co15] rfl (by (try simp only [List.map_toArray, List.map_cons, List.map_nil]); first | done | rfl | (simp only [List.length_drop, List.length_take]; rfl)) ?_; (with_reducible refine (ih k1 (by have := HK1.out; omega) _ _ l0_0 a0_1 (rd ((q00 l0_0 a1).f5) x20_1) (fun k_ => some k_ = (.slice Ao15 x2_1.length co15 : Value).ownBlock) (.slice Ao15 x2_1.length co15) x2_1 t202 w0 _ ?side1 ?side2 ?side3 ?side4 A13.out).mono ?_); (case side1 => repeat (first | (with_reducible first | exact HB.out | apply bA | apply bN | apply bD | refine bS ?_ GE196.out) | exact HB.out)); (case side2 => exact Kd.C_kept_call HR0_0.out (by repeat (first | (with_reducible first | exact HK.out | apply Kept.alloc | apply Kept.drewN | apply Kept.drew | refine Kept.setCell ?_ (.inr GW196.out) _) | exact HK.out)) (fun k_ hs_ => (fun e_ => (HO_2.out.1 k_ e_.symm)) hs_)); (case side3 => exact HC0_0.out); (case side4 => exact Kd.R_tight rfl HO_2.out); rintro e w16 ⟨v203, rfl, ho0, hb, hkp⟩; refine ⟨_, rfl, ?_⟩; have n0_ := aS (blk_kept (by (with_reducible repeat (first | refine kN ?_ _ | refine kD ?_ | refine kA ?_ _)); exact BK196.out) hkp (fun hs_ => (fun e_ => (Kd.R_ne HO_2.out BK196.out (by decide)) e_) hs_)); have n1_ := aS (Kd.R_mono (ok' := fun k_ => (P2_ k_ ∨ w.heap.size ≤ k_)) ho0 (fun k_ hk_ => Or.elim hk_ (fun hs_ => (HO_2.out.1 k_ (hs_).symm)) (fun hn_ => (.inr (Nat.le_trans (by first | exact HK.out.1 | exact (show Kept w _ (fun k_ => P2_ k_) from by repeat (first | (with_reducible first | exact HK.out | apply Kept.alloc | apply Kept.drewN | apply Kept.drew | refine Kept.setCell ?_ (.inr GW196.out) _) | exact HK.out)).1) hn_))))); have n2_ := aS (Kept.then_ (S := (fun k_ => P2_ k_)) (by repeat (first | (with_reducible first | exact HK.out | apply Kept.alloc | apply Kept.drewN | apply Kept.drew | refine Kept.setCell ?_ (.inr GW196.out) _) | exact HK.out)) hkp (fun k_ hs_ => (fun e_ => (HO_2.out.1 k_ e_.symm)) hs_)); have n3_ := aS (hb); clear BK196; clear HK; clear HB; clear HO_2; have BK196 := n0_; have HO204 := n1_; have HK := n2_; have HB := n3_; clear n0_ n1_ n2_ n3_; (try clear hb); (try clear hkp); (try clear ho0)))
    go_roundg k1
    case measure => have := HK1.out; omega
    case rel => exact ⟨(t202), (wrap64 (x20_1 + 1)), (by first | rfl | (simp; done) | simp [*]), H', ⟨by have := HK1.out; omega⟩, ⟨by (with_reducible repeat (first | apply rA | apply rN | apply rD)); exact HO204.out⟩, ⟨by (with_reducible repeat (first | refine kN ?_ _ | refine kD ?_ | refine kA ?_ _)); exact BK196.out⟩, ⟨by repeat (first | (with_reducible first | exact HK.out | apply Kept.alloc | apply Kept.drewN | apply Kept.drew | refine Kept.setCell ?_ (.inr GW196.out) _) | exact HK.out)⟩, ⟨by repeat (first | (with_reducible first | exact HB.out | apply bA | apply bN | apply bD | refine bS ?_ GE196.out) | exact HB.out)⟩⟩
   case n10 =>
    obtain rfl := Option.some.inj H
    go_wp2
    go_ret
    exact ⟨_, by first | rfl | (simp [q03, q02] <;> rfl) | (simp [*, q03, q02] <;> rfl), by (with_reducible repeat (first | apply rA | apply rN | apply rD)); exact HO_2.out, by repeat (first | (with_reducible first | exact HB.out | apply bA | apply bN | apply bD | refine bS ?_ GE196.out) | exact HB.out), by repeat (first | (with_reducible first | exact HK.out | apply Kept.alloc | apply Kept.drewN | apply Kept.drew | refine Kept.setCell ?_ (.inr GW196.out) _) | exact HK.out)⟩
def dom_Order.f (k : Nat) (l0_0 : List (S43)) (a0_1 : Bool) : Option (List Int × Int) := (dom_Check.f k l0_0 a0_1).bind fun t206 => (if t206 = 0 then ((dom_walk.f k l0_0 a0_1 0 ([] : List Int)).bind fun t207 => (some (t207, 0))) else (some (([] : List Int), t206)))
theorem dom_Order.mono : ∀ a0 a1 k, LeO (dom_Order.f k a0 a1) (dom_Order.f (k + 1) a0 a1) := by
 intro a0 a1 k
 unfold dom_Order.f
 repeat' first | with_reducible first | apply dom_Check.mono | apply dom_walk.mono | exact LeO.refl _ | exact LeO.none _ | refine LeO.ite ?_ ?_ | refine LeO.bind ?_ (fun _ => ?_) | (first | apply dom_Check.mono | apply dom_walk.mono | exact LeO.none _ | refine LeO.ite ?_ ?_ | refine LeO.bind ?_ (fun _ => ?_))
set_option maxHeartbeats 8000000 in
set_option maxRecDepth 100000 in
theorem dom_Order.calls (k : Nat) (A0_0 : Option Addr) (c0_0 : Nat) (l0_0 : List (S43)) (a0_1 : Bool) (r1 : List Int) (r2 : Int) (w : World) (hr0_0 : Kd.C k43 w A0_0 l0_0.length l0_0) (hc0_0 : l0_0.length ≤ c0_0) (h : dom_Order.f k l0_0 a0_1 = some (r1, r2)) :
 Calls Tryd.prog 59 #[.agg #[.slice A0_0 l0_0.length c0_0, .bool a0_1]] w fun e w' => ∃ v0_ : Value, e = .returned (.tuple #[v0_, .int .i64 r2]) ∧ Kd.R (Kd.int .i64) 3 w' w.heap.size (fun _ => True) v0_ r1 ∧ Below w.heap.size w w' := by
 have hu24 := Tryd.underlying24
 have HR0_0 := aS hr0_0
 have HC0_0 := aS hc0_0
 clear hr0_0 hc0_0
 have HB := aS (Below.refl w.heap.size w)
 have H := h; clear h; unfold dom_Order.f at H
 replace H := iB H
 obtain ⟨t206, A2, H⟩ := H
 refine iE H ?p3 ?n3 <;> clear H
 case' p3 => intro c3b0 c3b1 H
 case' n3 => intro c3 c3b0 c3b1 H
 case p3 =>
  replace H := iB H
  obtain ⟨t207, A4, H⟩ := H
  simp only [Option.some.injEq, Prod.mk.injEq] at H
  obtain ⟨rfl, rfl⟩ := H
  go_enter Tryd.func59, Tryd.ntmps59
  go_wp2_with (first | ((with_reducible refine q06 (N := 1) rfl ?_); refine box0 rfl (N := 1) rfl (cs := #[.slice A0_0 l0_0.length c0_0, .bool a0_1]) (t := 24) (by first | (go_simp; done) | (go_simp; rfl)) (by repeat (first | (with_reducible first | exact HB.out | apply bA | apply bN | apply bD) | exact HB.out)) ?_; clear HB; intro gb205 w5 BK205 GW205 HB; have GE205 := GW205; obtain ⟨hczL_0, hczL_1, hfzL_0, hfzL_1⟩ := bk2 BK205.out) | ((with_reducible refine q09 (f := 52) rfl ?_); refine q0n (some 6) rfl rfl Tryd.func52 (by kernel_rfl) rfl #[.agg #[.slice A0_0 l0_0.length c0_0, .bool a0_1]] rfl (by (try simp only [List.map_toArray, List.map_cons, List.map_nil]); first | done | rfl | (simp only [List.length_drop, List.length_take]; rfl)) ?_; (with_reducible refine (dom_Check.calls k _ _ l0_0 a0_1 t206 _ ?side1 ?side2 A2.out).mono ?_); (case side1 => repeat (first | exact (Kd.C_below HR0_0.out HB.out) | (with_reducible refine cA ?_ _) | (with_reducible refine cN ?_ _) | (with_reducible refine cD ?_))); (case side2 => exact HC0_0.out); rintro e w7 ⟨rfl, hb⟩; refine ⟨_, rfl, ?_⟩; replace BK205 := aS (q04 (g := gb205) (o := .cells #[.slice A0_0 l0_0.length c0_0, .bool a0_1] 24 (0, 0)) (by (with_reducible repeat (first | refine kN ?_ _ | refine kD ?_ | refine kA ?_ _)); exact BK205.out) hb); replace HB := aS (q01 (by repeat (first | (with_reducible first | exact HB.out | apply bA | apply bN | apply bD | refine bS ?_ GE205.out) | exact HB.out)) hb); (try clear hb); (try clear hb2); (try clear hk); (try clear hi); obtain ⟨hczL_0, hczL_1, hfzL_0, hfzL_1⟩ := bk2 BK205.out) | ((with_reducible refine q09 (f := 109) rfl ?_); refine q0n (some 11) rfl rfl Tryd.func109 (by kernel_rfl) rfl #[.agg #[.slice A0_0 l0_0.length c0_0, .bool a0_1], .int .i64 0, .slice none 0 0] rfl (by (try simp only [List.map_toArray, List.map_cons, List.map_nil]); first | done | rfl | (simp only [List.length_drop, List.length_take]; rfl)) ?_; (refine (dom_walk.calls k _ _ l0_0 a0_1 0 (fun k_ => some k_ = (.slice none 0 0 : Value).ownBlock) (.slice none 0 0) ([] : List Int) t207 w _ ?side1 ?side2 ?side3 ?side4 A4.out).mono ?_); (case side1 => repeat (first | (with_reducible first | exact HB.out | apply bA | apply bN | apply bD | refine bS ?_ GE205.out) | exact HB.out)); (case side2 => exact Kd.C_kept_came k43_heap HR0_0.out (by repeat (first | (with_reducible first | exact HB.out | apply bA | apply bN | apply bD | refine bS ?_ GE205.out) | exact HB.out)) (fun k_ hs_ => (fun e_ => by simp [Value.ownBlock] at e_) hs_)); (case side3 => exact HC0_0.out); (case side4 => exact Kd.R_nil _ _ _ _ _); rintro e w9 ⟨v208, rfl, ho0, hb, hkp⟩; refine ⟨_, rfl, ?_⟩; replace BK205 := aS (blk_kept (by (with_reducible repeat (first | refine kN ?_ _ | refine kD ?_ | refine kA ?_ _)); exact BK205.out) hkp (fun hs_ => (fun e_ => by simp [Value.ownBlock] at e_) hs_)); have HO209 := aS (Kd.R_mono (ok' := fun k_ => True) ho0 (fun k_ hk_ => trivial)); replace HB := aS (hb); (try clear hb); (try clear hkp); (try clear ho0)))
  go_ret2
  exact ⟨_, by first | rfl | (simp [q03, q02] <;> rfl) | (simp [*, q03, q02] <;> rfl), by (with_reducible repeat (first | apply rA | apply rN | apply rD)); exact HO209.out, by repeat (first | (with_reducible first | exact HB.out | apply bA | apply bN | apply bD | refine bS ?_ GE205.out) | exact HB.out)⟩
 case n3 =>
  simp only [Option.some.injEq, Prod.mk.injEq] at H
  obtain ⟨rfl, rfl⟩ := H
  go_enter Tryd.func59, Tryd.ntmps59
  go_wp2_with (first | ((with_reducible refine q06 (N := 1) rfl ?_); refine box0 rfl (N := 1) rfl (cs := #[.slice A0_0 l0_0.length c0_0, .bool a0_1]) (t := 24) (by first | (go_simp; done) | (go_simp; rfl)) (by repeat (first | (with_reducible first | exact HB.out | apply bA | apply bN | apply bD) | exact HB.out)) ?_; clear HB; intro gb205 w10 BK205 GW205 HB; have GE205 := GW205; obtain ⟨hczL_0, hczL_1, hfzL_0, hfzL_1⟩ := bk2 BK205.out) | ((with_reducible refine q09 (f := 52) rfl ?_); refine q0n (some 6) rfl rfl Tryd.func52 (by kernel_rfl) rfl #[.agg #[.slice A0_0 l0_0.length c0_0, .bool a0_1]] rfl (by (try simp only [List.map_toArray, List.map_cons, List.map_nil]); first | done | rfl | (simp only [List.length_drop, List.length_take]; rfl)) ?_; (with_reducible refine (dom_Check.calls k _ _ l0_0 a0_1 t206 _ ?side1 ?side2 A2.out).mono ?_); (case side1 => repeat (first | exact (Kd.C_below HR0_0.out HB.out) | (with_reducible refine cA ?_ _) | (with_reducible refine cN ?_ _) | (with_reducible refine cD ?_))); (case side2 => exact HC0_0.out); rintro e w12 ⟨rfl, hb⟩; refine ⟨_, rfl, ?_⟩; replace BK205 := aS (q04 (g := gb205) (o := .cells #[.slice A0_0 l0_0.length c0_0, .bool a0_1] 24 (0, 0)) (by (with_reducible repeat (first | refine kN ?_ _ | refine kD ?_ | refine kA ?_ _)); exact BK205.out) hb); replace HB := aS (q01 (by repeat (first | (with_reducible first | exact HB.out | apply bA | apply bN | apply bD | refine bS ?_ GE205.out) | exact HB.out)) hb); (try clear hb); (try clear hb2); (try clear hk); (try clear hi)))
  go_ret2
  exact ⟨_, by first | rfl | (simp [q03, q02] <;> rfl) | (simp [*, q03, q02] <;> rfl), by first | exact Kd.R_nil _ _ _ _ _ | exact Kd.N_nil _ _ _ _ _ | exact Kd.V_nil _ _ _ _ _ | exact Kd.Q_nil _ _ _ _ _ | exact Kd.S_nil _ _ _ _ _, by repeat (first | (with_reducible first | exact HB.out | apply bA | apply bN | apply bD | refine bS ?_ GE205.out) | exact HB.out)⟩
def clerestorylaw1_domBegun.f (k : Nat)  : Option (Bool) := (dom_New.f).bind fun bt210 => ((dom_Apply.f k bt210.1 bt210.2 4 0 0 0 (⟨#[]⟩ : ByteArray) (⟨#[]⟩ : ByteArray) 2 (⟨#[112]⟩ : ByteArray) ([] : List (S122)) (⟨#[]⟩ : ByteArray) 0 ([] : List Int)).bind fun bt214 => ((dom_Apply.f k bt214.1 bt214.2.1 5 0 bt214.2.2.1 (-1) (⟨#[]⟩ : ByteArray) (⟨#[]⟩ : ByteArray) 0 (⟨#[]⟩ : ByteArray) ([] : List (S122)) (⟨#[]⟩ : ByteArray) 0 ([] : List Int)).bind fun bt221 => ((dom_Order.f k bt221.1 bt221.2.1).bind fun bt227 => (if bt214.2.2.1 = 1 then (if bt214.2.2.2 = 0 then (if bt221.2.2.2 = 0 then (if bt227.2 = 0 then ((clerestoryref1_SameInts.f k bt227.1 (([0, 1] : List Int))).bind fun t234 => (if t234 = true then ((dom_Check.f k ([] : List (S43)) false).bind fun t235 => (some (t235 == 3))) else (some false))) else (some false)) else (some false)) else (some false)) else (some false)))))
theorem clerestorylaw1_domBegun.mono : ∀ k, LeO (clerestorylaw1_domBegun.f k ) (clerestorylaw1_domBegun.f (k + 1) ) := by
 intro  k
 unfold clerestorylaw1_domBegun.f
 repeat' first | with_reducible first | apply clerestoryref1_SameInts.mono | apply dom_Apply.mono | apply dom_Check.mono | apply dom_Order.mono | exact LeO.refl _ | exact LeO.none _ | refine LeO.ite ?_ ?_ | refine LeO.bind ?_ (fun _ => ?_) | (first | apply clerestoryref1_SameInts.mono | apply dom_Apply.mono | apply dom_Check.mono | apply dom_Order.mono | exact LeO.none _ | refine LeO.ite ?_ ?_ | refine LeO.bind ?_ (fun _ => ?_))
set_option maxHeartbeats 8000000 in
set_option maxRecDepth 100000 in
theorem clerestorylaw1_domBegun.calls (k : Nat)  (r : Bool) (w : World) (h : clerestorylaw1_domBegun.f k  = some r) :
 Calls Tryd.prog 51 #[] w fun e w' => e = .returned (.bool r) ∧ Below w.heap.size w w' := by
 have hu43 := Tryd.underlying43
 have hu87 := Tryd.underlying87
 have hu24 := Tryd.underlying24
 have HB := aS (Below.refl w.heap.size w)
 have H := h; clear h; unfold clerestorylaw1_domBegun.f at H
 replace H := iB H
 obtain ⟨⟨t210, t213⟩, A1, H⟩ := H
 try dsimp only at H
 replace H := iB H
 obtain ⟨⟨t214, t217, t218, t219⟩, A2, H⟩ := H
 try dsimp only at H
 replace H := iB H
 obtain ⟨⟨t221, t224, t225, t226⟩, A3, H⟩ := H
 try dsimp only at H
 replace H := iB H
 obtain ⟨⟨t227, t230⟩, A4, H⟩ := H
 try dsimp only at H
 refine iE H ?p5 ?n5 <;> clear H
 case' p5 => intro c5b0 c5b1 H; refine iE H ?p6 ?n6 <;> clear H
 case' p6 => intro c6b0 c6b1 H; refine iE H ?p7 ?n7 <;> clear H
 case' p7 => intro c7b0 c7b1 H; refine iE H ?p8 ?n8 <;> clear H
 case' p8 =>
  intro c8b0 c8b1 H
  obtain ⟨y231, hy231⟩ : ∃ y_ : List Int, y_ = (([0, 1] : List Int)) := ⟨_, rfl⟩
  replace H : ((clerestoryref1_SameInts.f k t227 y231).bind fun t234 => (if t234 = true then ((dom_Check.f k ([] : List (S43)) false).bind fun t235 => (some (t235 == 3))) else (some false))) = some r := by first | (rw [hy231]; with_reducible exact H) | (have H2_ := (Option.bind_some _ _).symm.trans H; rw [hy231]; with_reducible exact H2_) | (have H2_ := (Option.bind_some _ _).symm.trans H; with_reducible exact H2_) | with_reducible exact H | (rw [hy231]; exact H) | exact H
  have Ny231 := aS hy231
  clear hy231
  replace H := iB H
  obtain ⟨t234, A9, H⟩ := H
  refine iV H ?p10 ?n10 <;> clear H
 case' p10 => intro c10 H; subst c10
 case' n10 => intro c10 H; subst c10
 case' n8 => intro c8 c8b0 c8b1 H
 case' n7 => intro c7 c7b0 c7b1 H
 case' n6 => intro c6 c6b0 c6b1 H
 case' n5 => intro c5 c5b0 c5b1 H
 case p10 =>
  replace H := iB H
  obtain ⟨t235, A11, H⟩ := H
  obtain rfl := Option.some.inj H
  go_enter Tryd.func51, Tryd.ntmps51
  go_wp2_with (first | ((with_reducible refine q09 (f := 54) rfl ?_); refine q0n (some 9) rfl rfl Tryd.func54 (by kernel_rfl) rfl #[] rfl (by (try simp only [List.map_toArray, List.map_cons, List.map_nil]); first | done | rfl | (simp only [List.length_drop, List.length_take]; rfl)) ?_; (with_reducible refine (dom_New.calls  t210 t213 _ A1.out).mono ?_); rintro e w12 ⟨v211, rfl, ho0, hb⟩; refine ⟨_, rfl, ?_⟩; have HO212 := aS (Kd.S_lower ho0 (q07 (by repeat (first | (with_reducible first | exact HB.out | apply bA | apply bN | apply bD) | exact HB.out)))); replace HB := aS (q01 (by repeat (first | (with_reducible first | exact HB.out | apply bA | apply bN | apply bD) | exact HB.out)) hb); (try clear hb); (try clear hb2); (try clear hk); (try clear hi); (try clear ho0); obtain ⟨Ao13, co13, eo13⟩ := Kd.S_slice HO212.out; subst eo13) | ((with_reducible refine q09 (f := 55) rfl ?_); refine q0n (some 12) rfl rfl Tryd.func55 (by kernel_rfl) rfl #[.agg #[.slice Ao13 t210.length co13, .bool t213], .agg #[.int .i64 4, .int .i64 0, .int .i64 0, .int .i64 0, .string (⟨#[]⟩ : ByteArray), .string (⟨#[]⟩ : ByteArray), .int .i64 2, .string (⟨#[112]⟩ : ByteArray), .slice none 0 0, .string (⟨#[]⟩ : ByteArray), .int .i64 0, .slice none 0 0]] rfl (by (try simp only [List.map_toArray, List.map_cons, List.map_nil]); first | done | rfl | (simp only [List.length_drop, List.length_take]; rfl)) ?_; (refine (dom_Apply.calls k _ _ t210 t213 4 0 0 0 (⟨#[]⟩ : ByteArray) (⟨#[]⟩ : ByteArray) 2 (⟨#[112]⟩ : ByteArray) _ _ ([] : List (S122)) (⟨#[]⟩ : ByteArray) 0 _ _ ([] : List Int) t214 t217 t218 t219 _ ?side1 ?side2 ?side3 ?side4 ?side5 ?side6 A2.out).mono ?_); (case side1 => repeat (first | exact (Kd.S_reads' HO212.out).2.2 | (with_reducible refine cA ?_ _) | (with_reducible refine cN ?_ _) | (with_reducible refine cD ?_))); (case side2 => exact (Kd.S_reads' HO212.out).2.1); (case side3 => exact Kd.C_nil _ _); (case side4 => exact Nat.le_refl _); (case side5 => exact Kd.C_nil _ _); (case side6 => exact Nat.le_refl _); rintro e w14 ⟨v215, rfl, ho0, hb⟩; refine ⟨_, rfl, ?_⟩; have n0_ := aS (Kd.S_elder' (by (with_reducible repeat (first | apply sA | apply sN | apply sD)); exact HO212.out) (Kd.S_base ho0) hb); have n1_ := aS (Kd.S_lower (Kd.S_new' ho0 (Kd.S_lt (by (with_reducible repeat (first | apply sA | apply sN | apply sD)); exact HO212.out))) (q07 (by repeat (first | (with_reducible first | exact HB.out | apply bA | apply bN | apply bD) | exact HB.out)))); have n2_ := aS (q01 (by repeat (first | (with_reducible first | exact HB.out | apply bA | apply bN | apply bD) | exact HB.out)) hb); clear HO212; clear HB; have HO212 := n0_; have HO216 := n1_; have HB := n2_; clear n0_ n1_ n2_; (try clear hb); (try clear hb2); (try clear hk); (try clear hi); (try clear ho0)) | ((with_reducible refine q06 (N := 1) rfl ?_); (try (refine q0k (by rfl) ?_; dsimp only)); refine q0i ?hg (N := 1) ?hd (cs := #[.slice none 0 0, .bool false]) (t := 24) ?hr ?_; (case hd => rfl); (case hg => rfl); (case hr => first | (go_simp; done) | (go_simp; rfl)); intro gb220 hg w15 hbox hb; replace HO212 := aS (Kd.S_below (by (with_reducible repeat (first | apply sA | apply sN | apply sD)); exact HO212.out) hb); replace HO216 := aS (Kd.S_below (by (with_reducible repeat (first | apply sA | apply sN | apply sD)); exact HO216.out) hb); have BK220 := aS (hbox); have GW220 := aS ((by rw [hg]; exact (q07 (by repeat (first | (with_reducible first | exact HB.out | apply bA | apply bN | apply bD) | exact HB.out))) : w.heap.size ≤ gb220)); have GE220 := aS ((by rw [hg]; exact (q07 (by repeat (first | (with_reducible first | exact HB.out | apply bA | apply bN | apply bD) | exact HB.out))) : w.heap.size ≤ gb220)); replace HB := aS (q01 (by repeat (first | (with_reducible first | exact HB.out | apply bA | apply bN | apply bD) | exact HB.out)) hb); clear hb hbox hg; obtain ⟨Ao16, co16, eo16⟩ := Kd.S_slice HO216.out; subst eo16; obtain ⟨hczL_0, hczL_1, hfzL_0, hfzL_1⟩ := bk2 BK220.out) | ((with_reducible refine q09 (f := 55) rfl ?_); refine q0n (some 20) rfl rfl Tryd.func55 (by kernel_rfl) rfl #[.agg #[.slice Ao16 t214.length co16, .bool t217], .agg #[.int .i64 5, .int .i64 0, .int .i64 t218, .int .i64 (-1), .string (⟨#[]⟩ : ByteArray), .string (⟨#[]⟩ : ByteArray), .int .i64 0, .string (⟨#[]⟩ : ByteArray), .slice none 0 0, .string (⟨#[]⟩ : ByteArray), .int .i64 0, .slice none 0 0]] rfl (by (try simp only [List.map_toArray, List.map_cons, List.map_nil]); first | done | rfl | (simp only [List.length_drop, List.length_take]; rfl)) ?_; (refine (dom_Apply.calls k _ _ t214 t217 5 0 t218 (-1) (⟨#[]⟩ : ByteArray) (⟨#[]⟩ : ByteArray) 0 (⟨#[]⟩ : ByteArray) _ _ ([] : List (S122)) (⟨#[]⟩ : ByteArray) 0 _ _ ([] : List Int) t221 t224 t225 t226 _ ?side1 ?side2 ?side3 ?side4 ?side5 ?side6 A3.out).mono ?_); (case side1 => refine (Kd.S_reads' (e := 43) (base := w.heap.size) (ok := fun k_ => (True ∧ some k_ ≠ (.slice Ao13 t210.length co13 : Value).ownBlock)) (n := t214.length) (c := co16) ?_).2.2; exact (by (with_reducible repeat (first | apply sA | apply sN | apply sD)); exact (Kd.S_mono (Kd.S_far (p := ⟨gb220, 1, none⟩) (Kd.S_far (p := ⟨gb220, 0, none⟩) (Kd.S_types HO216.out BK220.out (by decide)) (fun _ hk => hk.2) (.slice Ao16 t214.length co16)) (fun _ hk => hk.2) (.bool t217)) (fun _ h_ => h_.1)))); (case side2 => exact (Kd.S_reads' HO216.out).2.1); (case side3 => exact Kd.C_nil _ _); (case side4 => exact Nat.le_refl _); (case side5 => exact Kd.C_nil _ _); (case side6 => exact Nat.le_refl _); rintro e w18 ⟨v222, rfl, ho0, hb⟩; refine ⟨_, rfl, ?_⟩; have n0_ := aS (Kd.S_elder' (by (with_reducible repeat (first | apply sA | apply sN | apply sD)); exact (Kd.S_mono (Kd.S_far (p := ⟨gb220, 1, none⟩) (Kd.S_far (p := ⟨gb220, 0, none⟩) (Kd.S_types HO212.out BK220.out (by decide)) (fun _ hk => hk.2) (.slice Ao16 t214.length co16)) (fun _ hk => hk.2) (.bool t217)) (fun _ h_ => h_.1))) (Kd.S_base ho0) hb); have n1_ := aS (Kd.S_elder' (by (with_reducible repeat (first | apply sA | apply sN | apply sD)); exact (Kd.S_mono (Kd.S_far (p := ⟨gb220, 1, none⟩) (Kd.S_far (p := ⟨gb220, 0, none⟩) (Kd.S_types HO216.out BK220.out (by decide)) (fun _ hk => hk.2) (.slice Ao16 t214.length co16)) (fun _ hk => hk.2) (.bool t217)) (fun _ h_ => h_.1))) (Kd.S_base ho0) hb); have n2_ := aS (Kd.S_lower (Kd.S_new' (Kd.S_new' ho0 (Kd.S_lt (by (with_reducible repeat (first | apply sA | apply sN | apply sD)); exact (Kd.S_mono (Kd.S_far (p := ⟨gb220, 1, none⟩) (Kd.S_far (p := ⟨gb220, 0, none⟩) (Kd.S_types HO212.out BK220.out (by decide)) (fun _ hk => hk.2) (.slice Ao16 t214.length co16)) (fun _ hk => hk.2) (.bool t217)) (fun _ h_ => h_.1))))) (Kd.S_lt (by (with_reducible repeat (first | apply sA | apply sN | apply sD)); exact (Kd.S_mono (Kd.S_far (p := ⟨gb220, 1, none⟩) (Kd.S_far (p := ⟨gb220, 0, none⟩) (Kd.S_types HO216.out BK220.out (by decide)) (fun _ hk => hk.2) (.slice Ao16 t214.length co16)) (fun _ hk => hk.2) (.bool t217)) (fun _ h_ => h_.1))))) (q07 (by repeat (first | (with_reducible first | exact HB.out | apply bA | apply bN | apply bD | refine bS ?_ GE220.out) | exact HB.out)))); have n3_ := aS (q04 (g := gb220) (o := .cells #[.slice Ao16 t214.length co16, .bool t217] 24 (0, 0)) (by (with_reducible repeat (first | refine kN ?_ _ | refine kD ?_ | refine kA ?_ _)); refine q0g (cs := #[.slice Ao16 t214.length co16, .bool false]) ?_ 1 _ rfl; (with_reducible repeat (first | refine kN ?_ _ | refine kD ?_ | refine kA ?_ _)); refine q0g (cs := #[.slice none 0 0, .bool false]) ?_ 0 _ rfl; (with_reducible repeat (first | refine kN ?_ _ | refine kD ?_ | refine kA ?_ _)); exact BK220.out) hb); have n4_ := aS (q01 (by repeat (first | (with_reducible first | exact HB.out | apply bA | apply bN | apply bD | refine bS ?_ GE220.out) | exact HB.out)) hb); clear HO212; clear HO216; clear BK220; clear HB; have HO212 := n0_; have HO216 := n1_; have HO223 := n2_; have BK220 := n3_; have HB := n4_; clear n0_ n1_ n2_ n3_ n4_; (try clear hb); (try clear hb2); (try clear hk); (try clear hi); (try clear ho0); obtain ⟨Ao19, co19, eo19⟩ := Kd.S_slice HO223.out; subst eo19; obtain ⟨hczL_0, hczL_1, hfzL_0, hfzL_1⟩ := bk2 BK220.out) | ((with_reducible refine q09 (f := 59) rfl ?_); refine q0n (some 26) rfl rfl Tryd.func59 (by kernel_rfl) rfl #[.agg #[.slice Ao19 t221.length co19, .bool t224]] rfl (by (try simp only [List.map_toArray, List.map_cons, List.map_nil]); first | done | rfl | (simp only [List.length_drop, List.length_take]; rfl)) ?_; (with_reducible refine (dom_Order.calls k _ _ t221 t224 t227 t230 _ ?side1 ?side2 A4.out).mono ?_); (case side1 => refine (Kd.S_reads' (e := 43) (base := w.heap.size) (ok := fun k_ => ((True ∧ some k_ ≠ (.slice Ao13 t210.length co13 : Value).ownBlock) ∧ some k_ ≠ (.slice Ao16 t214.length co16 : Value).ownBlock)) (n := t221.length) (c := co19) ?_).2.2; exact (by (with_reducible repeat (first | apply sA | apply sN | apply sD)); exact (Kd.S_mono (Kd.S_far (p := ⟨gb220, 1, none⟩) (Kd.S_far (p := ⟨gb220, 0, none⟩) (Kd.S_types HO223.out BK220.out (by decide)) (fun _ hk => hk.2) (.slice Ao19 t221.length co19)) (fun _ hk => hk.2) (.bool t224)) (fun _ h_ => h_.1)))); (case side2 => exact (Kd.S_reads' HO223.out).2.1); rintro e w21 ⟨v228, rfl, ho0, hb⟩; refine ⟨_, rfl, ?_⟩; replace HO212 := aS (Kd.S_elder' (by (with_reducible repeat (first | apply sA | apply sN | apply sD)); exact (Kd.S_mono (Kd.S_far (p := ⟨gb220, 1, none⟩) (Kd.S_far (p := ⟨gb220, 0, none⟩) (Kd.S_types HO212.out BK220.out (by decide)) (fun _ hk => hk.2) (.slice Ao19 t221.length co19)) (fun _ hk => hk.2) (.bool t224)) (fun _ h_ => h_.1))) (Kd.R_base ho0) hb); replace HO216 := aS (Kd.S_elder' (by (with_reducible repeat (first | apply sA | apply sN | apply sD)); exact (Kd.S_mono (Kd.S_far (p := ⟨gb220, 1, none⟩) (Kd.S_far (p := ⟨gb220, 0, none⟩) (Kd.S_types HO216.out BK220.out (by decide)) (fun _ hk => hk.2) (.slice Ao19 t221.length co19)) (fun _ hk => hk.2) (.bool t224)) (fun _ h_ => h_.1))) (Kd.R_base ho0) hb); replace HO223 := aS (Kd.S_elder' (by (with_reducible repeat (first | apply sA | apply sN | apply sD)); exact (Kd.S_mono (Kd.S_far (p := ⟨gb220, 1, none⟩) (Kd.S_far (p := ⟨gb220, 0, none⟩) (Kd.S_types HO223.out BK220.out (by decide)) (fun _ hk => hk.2) (.slice Ao19 t221.length co19)) (fun _ hk => hk.2) (.bool t224)) (fun _ h_ => h_.1))) (Kd.R_base ho0) hb); have HO229 := aS (Kd.R_lower ho0 (q07 (by repeat (first | (with_reducible first | exact HB.out | apply bA | apply bN | apply bD | refine bS ?_ GE220.out) | exact HB.out)))); replace BK220 := aS (q04 (g := gb220) (o := .cells #[.slice Ao19 t221.length co19, .bool t224] 24 (0, 0)) (by (with_reducible repeat (first | refine kN ?_ _ | refine kD ?_ | refine kA ?_ _)); refine q0g (cs := #[.slice Ao19 t221.length co19, .bool t217]) ?_ 1 _ rfl; (with_reducible repeat (first | refine kN ?_ _ | refine kD ?_ | refine kA ?_ _)); refine q0g (cs := #[.slice Ao16 t214.length co16, .bool t217]) ?_ 0 _ rfl; (with_reducible repeat (first | refine kN ?_ _ | refine kD ?_ | refine kA ?_ _)); exact BK220.out) hb); replace HB := aS (q01 (by repeat (first | (with_reducible first | exact HB.out | apply bA | apply bN | apply bD | refine bS ?_ GE220.out) | exact HB.out)) hb); (try clear hb); (try clear hb2); (try clear hk); (try clear hi); (try clear ho0)) | ((with_reducible refine q06 (N := 45) rfl ?_); (try (refine q0k (by rfl) ?_; dsimp only)); refine Kd.R_lit (Kd.int .i64) _ 3 ?hg (N := 45) ?hd (xs := ([0, 1] : List Int)) (inner := [.int .i64 0, .int .i64 1]) (ok := fun _ => True) (okp := fun _ => True) ?hr ?hp (fun _ hk => hk) trivial (Below.refl _ _) (Nat.le_refl _) (by simp) ?_; (case hd => rfl); (case hg => rfl); (case hr => first | (go_simp; done) | (go_simp; rfl)); (case hp => exact (Reps.one (show Kd.M (Kd.int .i64) _ _ _ 0 [.int .i64 0] from rfl) (Reps.one (show Kd.M (Kd.int .i64) _ _ _ 1 [.int .i64 1] from rfl) (Reps.none _ _)))); intro v232 w22 ho23 hb hg_ hnew_; clear hg_ hnew_; (first | rw [← Ny231.out] at ho23 | (simp only [Int.reduceToNat] at ho23; rw [← Ny231.out] at ho23)); have n0_ := aS (Kd.S_elder' (by (with_reducible repeat (first | apply sA | apply sN | apply sD)); exact HO212.out) (Kd.R_base ho23) hb); have n1_ := aS (Kd.S_elder' (by (with_reducible repeat (first | apply sA | apply sN | apply sD)); exact HO216.out) (Kd.R_base ho23) hb); have n2_ := aS (Kd.S_elder' (by (with_reducible repeat (first | apply sA | apply sN | apply sD)); exact HO223.out) (Kd.R_base ho23) hb); have n3_ := aS (Kd.R_elder' (by (with_reducible repeat (first | apply rA | apply rN | apply rD)); exact HO229.out) (Kd.R_base ho23) hb); have n4_ := aS (Kd.R_lower (Kd.R_new' ho23 (Kd.R_lt (by (with_reducible repeat (first | apply rA | apply rN | apply rD)); exact HO229.out))) (q07 (by repeat (first | (with_reducible first | exact HB.out | apply bA | apply bN | apply bD | refine bS ?_ GE220.out) | exact HB.out)))); have n5_ := aS (q04 (g := gb220) (o := .cells #[.slice Ao19 t221.length co19, .bool t224] 24 (0, 0)) (by (with_reducible repeat (first | refine kN ?_ _ | refine kD ?_ | refine kA ?_ _)); exact BK220.out) hb); have n6_ := aS (q01 (by repeat (first | (with_reducible first | exact HB.out | apply bA | apply bN | apply bD | refine bS ?_ GE220.out) | exact HB.out)) hb); clear HO212; clear HO216; clear HO223; clear HO229; clear BK220; clear HB; have HO212 := n0_; have HO216 := n1_; have HO223 := n2_; have HO229 := n3_; have HO233 := n4_; have BK220 := n5_; have HB := n6_; clear n0_ n1_ n2_ n3_ n4_ n5_ n6_; clear hb ho23; obtain ⟨Ao24, co24, eo24⟩ := Kd.R_slice HO229.out; subst eo24; obtain ⟨Ao25, co25, eo25⟩ := Kd.R_slice HO233.out; subst eo25) | (go_at_call 30; (with_reducible refine (clerestoryref1_SameInts.calls k _ _ t227 _ _ y231 true _ ?side1 ?side2 ?side3 ?side4 A9.out).mono ?_); (case side1 => repeat (first | exact (Kd.R_reads' HO229.out).2.2 | (with_reducible refine cA ?_ _) | (with_reducible refine cN ?_ _) | (with_reducible refine cD ?_))); (case side2 => exact (Kd.R_reads' HO229.out).2.1); (case side3 => repeat (first | exact (Kd.R_reads' HO233.out).2.2 | (with_reducible refine cA ?_ _) | (with_reducible refine cN ?_ _) | (with_reducible refine cD ?_))); (case side4 => exact (Kd.R_reads' HO233.out).2.1); rintro e w' ⟨rfl, ⟨nd, rfl⟩⟩) | (go_at_call 52; (refine (dom_Check.calls k _ _ ([] : List (S43)) false t235 _ ?side1 ?side2 A11.out).mono ?_); (case side1 => exact Kd.C_nil _ _); (case side2 => exact Nat.le_refl _); rintro e w26 ⟨rfl, hb⟩; replace HO212 := aS (Kd.S_below (by (with_reducible repeat (first | apply sA | apply sN | apply sD)); exact HO212.out) hb); replace HO216 := aS (Kd.S_below (by (with_reducible repeat (first | apply sA | apply sN | apply sD)); exact HO216.out) hb); replace HO223 := aS (Kd.S_below (by (with_reducible repeat (first | apply sA | apply sN | apply sD)); exact HO223.out) hb); replace HO229 := aS (Kd.R_below (by (with_reducible repeat (first | apply rA | apply rN | apply rD)); exact HO229.out) hb); replace HO233 := aS (Kd.R_below (by (with_reducible repeat (first | apply rA | apply rN | apply rD)); exact HO233.out) hb); replace BK220 := aS (q04 (g := gb220) (o := .cells #[.slice Ao19 t221.length co19, .bool t224] 24 (0, 0)) (by (with_reducible repeat (first | refine kN ?_ _ | refine kD ?_ | refine kA ?_ _)); exact BK220.out) hb); replace HB := aS (q01 (by repeat (first | (with_reducible first | exact HB.out | apply bA | apply bN | apply bD | refine bS ?_ GE220.out) | exact HB.out)) hb); (try clear hb); (try clear hb2); (try clear hk); (try clear hi)))
  go_ret
  exact ⟨by first | rfl | (simp [q03, q02] <;> rfl) | (simp [*, q03, q02] <;> rfl), by repeat (first | (with_reducible first | exact HB.out | apply bA | apply bN | apply bD | refine bS ?_ GE220.out) | exact HB.out)⟩
 case n10 =>
  obtain rfl := Option.some.inj H
  go_enter Tryd.func51, Tryd.ntmps51
  go_wp2_with (first | ((with_reducible refine q09 (f := 54) rfl ?_); refine q0n (some 9) rfl rfl Tryd.func54 (by kernel_rfl) rfl #[] rfl (by (try simp only [List.map_toArray, List.map_cons, List.map_nil]); first | done | rfl | (simp only [List.length_drop, List.length_take]; rfl)) ?_; (with_reducible refine (dom_New.calls  t210 t213 _ A1.out).mono ?_); rintro e w27 ⟨v211, rfl, ho0, hb⟩; refine ⟨_, rfl, ?_⟩; have HO212 := aS (Kd.S_lower ho0 (q07 (by repeat (first | (with_reducible first | exact HB.out | apply bA | apply bN | apply bD) | exact HB.out)))); replace HB := aS (q01 (by repeat (first | (with_reducible first | exact HB.out | apply bA | apply bN | apply bD) | exact HB.out)) hb); (try clear hb); (try clear hb2); (try clear hk); (try clear hi); (try clear ho0); obtain ⟨Ao28, co28, eo28⟩ := Kd.S_slice HO212.out; subst eo28) | ((with_reducible refine q09 (f := 55) rfl ?_); refine q0n (some 12) rfl rfl Tryd.func55 (by kernel_rfl) rfl #[.agg #[.slice Ao28 t210.length co28, .bool t213], .agg #[.int .i64 4, .int .i64 0, .int .i64 0, .int .i64 0, .string (⟨#[]⟩ : ByteArray), .string (⟨#[]⟩ : ByteArray), .int .i64 2, .string (⟨#[112]⟩ : ByteArray), .slice none 0 0, .string (⟨#[]⟩ : ByteArray), .int .i64 0, .slice none 0 0]] rfl (by (try simp only [List.map_toArray, List.map_cons, List.map_nil]); first | done | rfl | (simp only [List.length_drop, List.length_take]; rfl)) ?_; (refine (dom_Apply.calls k _ _ t210 t213 4 0 0 0 (⟨#[]⟩ : ByteArray) (⟨#[]⟩ : ByteArray) 2 (⟨#[112]⟩ : ByteArray) _ _ ([] : List (S122)) (⟨#[]⟩ : ByteArray) 0 _ _ ([] : List Int) t214 t217 t218 t219 _ ?side1 ?side2 ?side3 ?side4 ?side5 ?side6 A2.out).mono ?_); (case side1 => repeat (first | exact (Kd.S_reads' HO212.out).2.2 | (with_reducible refine cA ?_ _) | (with_reducible refine cN ?_ _) | (with_reducible refine cD ?_))); (case side2 => exact (Kd.S_reads' HO212.out).2.1); (case side3 => exact Kd.C_nil _ _); (case side4 => exact Nat.le_refl _); (case side5 => exact Kd.C_nil _ _); (case side6 => exact Nat.le_refl _); rintro e w29 ⟨v215, rfl, ho0, hb⟩; refine ⟨_, rfl, ?_⟩; have n0_ := aS (Kd.S_elder' (by (with_reducible repeat (first | apply sA | apply sN | apply sD)); exact HO212.out) (Kd.S_base ho0) hb); have n1_ := aS (Kd.S_lower (Kd.S_new' ho0 (Kd.S_lt (by (with_reducible repeat (first | apply sA | apply sN | apply sD)); exact HO212.out))) (q07 (by repeat (first | (with_reducible first | exact HB.out | apply bA | apply bN | apply bD) | exact HB.out)))); have n2_ := aS (q01 (by repeat (first | (with_reducible first | exact HB.out | apply bA | apply bN | apply bD) | exact HB.out)) hb); clear HO212; clear HB; have HO212 := n0_; have HO216 := n1_; have HB := n2_; clear n0_ n1_ n2_; (try clear hb); (try clear hb2); (try clear hk); (try clear hi); (try clear ho0)) | ((with_reducible refine q06 (N := 1) rfl ?_); (try (refine q0k (by rfl) ?_; dsimp only)); refine q0i ?hg (N := 1) ?hd (cs := #[.slice none 0 0, .bool false]) (t := 24) ?hr ?_; (case hd => rfl); (case hg => rfl); (case hr => first | (go_simp; done) | (go_simp; rfl)); intro gb220 hg w30 hbox hb; replace HO212 := aS (Kd.S_below (by (with_reducible repeat (first | apply sA | apply sN | apply sD)); exact HO212.out) hb); replace HO216 := aS (Kd.S_below (by (with_reducible repeat (first | apply sA | apply sN | apply sD)); exact HO216.out) hb); have BK220 := aS (hbox); have GW220 := aS ((by rw [hg]; exact (q07 (by repeat (first | (with_reducible first | exact HB.out | apply bA | apply bN | apply bD) | exact HB.out))) : w.heap.size ≤ gb220)); have GE220 := aS ((by rw [hg]; exact (q07 (by repeat (first | (with_reducible first | exact HB.out | apply bA | apply bN | apply bD) | exact HB.out))) : w.heap.size ≤ gb220)); replace HB := aS (q01 (by repeat (first | (with_reducible first | exact HB.out | apply bA | apply bN | apply bD) | exact HB.out)) hb); clear hb hbox hg; obtain ⟨Ao31, co31, eo31⟩ := Kd.S_slice HO216.out; subst eo31; obtain ⟨hczL_0, hczL_1, hfzL_0, hfzL_1⟩ := bk2 BK220.out) | ((with_reducible refine q09 (f := 55) rfl ?_); refine q0n (some 20) rfl rfl Tryd.func55 (by kernel_rfl) rfl #[.agg #[.slice Ao31 t214.length co31, .bool t217], .agg #[.int .i64 5, .int .i64 0, .int .i64 t218, .int .i64 (-1), .string (⟨#[]⟩ : ByteArray), .string (⟨#[]⟩ : ByteArray), .int .i64 0, .string (⟨#[]⟩ : ByteArray), .slice none 0 0, .string (⟨#[]⟩ : ByteArray), .int .i64 0, .slice none 0 0]] rfl (by (try simp only [List.map_toArray, List.map_cons, List.map_nil]); first | done | rfl | (simp only [List.length_drop, List.length_take]; rfl)) ?_; (refine (dom_Apply.calls k _ _ t214 t217 5 0 t218 (-1) (⟨#[]⟩ : ByteArray) (⟨#[]⟩ : ByteArray) 0 (⟨#[]⟩ : ByteArray) _ _ ([] : List (S122)) (⟨#[]⟩ : ByteArray) 0 _ _ ([] : List Int) t221 t224 t225 t226 _ ?side1 ?side2 ?side3 ?side4 ?side5 ?side6 A3.out).mono ?_); (case side1 => refine (Kd.S_reads' (e := 43) (base := w.heap.size) (ok := fun k_ => (True ∧ some k_ ≠ (.slice Ao28 t210.length co28 : Value).ownBlock)) (n := t214.length) (c := co31) ?_).2.2; exact (by (with_reducible repeat (first | apply sA | apply sN | apply sD)); exact (Kd.S_mono (Kd.S_far (p := ⟨gb220, 1, none⟩) (Kd.S_far (p := ⟨gb220, 0, none⟩) (Kd.S_types HO216.out BK220.out (by decide)) (fun _ hk => hk.2) (.slice Ao31 t214.length co31)) (fun _ hk => hk.2) (.bool t217)) (fun _ h_ => h_.1)))); (case side2 => exact (Kd.S_reads' HO216.out).2.1); (case side3 => exact Kd.C_nil _ _); (case side4 => exact Nat.le_refl _); (case side5 => exact Kd.C_nil _ _); (case side6 => exact Nat.le_refl _); rintro e w33 ⟨v222, rfl, ho0, hb⟩; refine ⟨_, rfl, ?_⟩; have n0_ := aS (Kd.S_elder' (by (with_reducible repeat (first | apply sA | apply sN | apply sD)); exact (Kd.S_mono (Kd.S_far (p := ⟨gb220, 1, none⟩) (Kd.S_far (p := ⟨gb220, 0, none⟩) (Kd.S_types HO212.out BK220.out (by decide)) (fun _ hk => hk.2) (.slice Ao31 t214.length co31)) (fun _ hk => hk.2) (.bool t217)) (fun _ h_ => h_.1))) (Kd.S_base ho0) hb); have n1_ := aS (Kd.S_elder' (by (with_reducible repeat (first | apply sA | apply sN | apply sD)); exact (Kd.S_mono (Kd.S_far (p := ⟨gb220, 1, none⟩) (Kd.S_far (p := ⟨gb220, 0, none⟩) (Kd.S_types HO216.out BK220.out (by decide)) (fun _ hk => hk.2) (.slice Ao31 t214.length co31)) (fun _ hk => hk.2) (.bool t217)) (fun _ h_ => h_.1))) (Kd.S_base ho0) hb); have n2_ := aS (Kd.S_lower (Kd.S_new' (Kd.S_new' ho0 (Kd.S_lt (by (with_reducible repeat (first | apply sA | apply sN | apply sD)); exact (Kd.S_mono (Kd.S_far (p := ⟨gb220, 1, none⟩) (Kd.S_far (p := ⟨gb220, 0, none⟩) (Kd.S_types HO212.out BK220.out (by decide)) (fun _ hk => hk.2) (.slice Ao31 t214.length co31)) (fun _ hk => hk.2) (.bool t217)) (fun _ h_ => h_.1))))) (Kd.S_lt (by (with_reducible repeat (first | apply sA | apply sN | apply sD)); exact (Kd.S_mono (Kd.S_far (p := ⟨gb220, 1, none⟩) (Kd.S_far (p := ⟨gb220, 0, none⟩) (Kd.S_types HO216.out BK220.out (by decide)) (fun _ hk => hk.2) (.slice Ao31 t214.length co31)) (fun _ hk => hk.2) (.bool t217)) (fun _ h_ => h_.1))))) (q07 (by repeat (first | (with_reducible first | exact HB.out | apply bA | apply bN | apply bD | refine bS ?_ GE220.out) | exact HB.out)))); have n3_ := aS (q04 (g := gb220) (o := .cells #[.slice Ao31 t214.length co31, .bool t217] 24 (0, 0)) (by (with_reducible repeat (first | refine kN ?_ _ | refine kD ?_ | refine kA ?_ _)); refine q0g (cs := #[.slice Ao31 t214.length co31, .bool false]) ?_ 1 _ rfl; (with_reducible repeat (first | refine kN ?_ _ | refine kD ?_ | refine kA ?_ _)); refine q0g (cs := #[.slice none 0 0, .bool false]) ?_ 0 _ rfl; (with_reducible repeat (first | refine kN ?_ _ | refine kD ?_ | refine kA ?_ _)); exact BK220.out) hb); have n4_ := aS (q01 (by repeat (first | (with_reducible first | exact HB.out | apply bA | apply bN | apply bD | refine bS ?_ GE220.out) | exact HB.out)) hb); clear HO212; clear HO216; clear BK220; clear HB; have HO212 := n0_; have HO216 := n1_; have HO223 := n2_; have BK220 := n3_; have HB := n4_; clear n0_ n1_ n2_ n3_ n4_; (try clear hb); (try clear hb2); (try clear hk); (try clear hi); (try clear ho0); obtain ⟨Ao34, co34, eo34⟩ := Kd.S_slice HO223.out; subst eo34; obtain ⟨hczL_0, hczL_1, hfzL_0, hfzL_1⟩ := bk2 BK220.out) | ((with_reducible refine q09 (f := 59) rfl ?_); refine q0n (some 26) rfl rfl Tryd.func59 (by kernel_rfl) rfl #[.agg #[.slice Ao34 t221.length co34, .bool t224]] rfl (by (try simp only [List.map_toArray, List.map_cons, List.map_nil]); first | done | rfl | (simp only [List.length_drop, List.length_take]; rfl)) ?_; (with_reducible refine (dom_Order.calls k _ _ t221 t224 t227 t230 _ ?side1 ?side2 A4.out).mono ?_); (case side1 => refine (Kd.S_reads' (e := 43) (base := w.heap.size) (ok := fun k_ => ((True ∧ some k_ ≠ (.slice Ao28 t210.length co28 : Value).ownBlock) ∧ some k_ ≠ (.slice Ao31 t214.length co31 : Value).ownBlock)) (n := t221.length) (c := co34) ?_).2.2; exact (by (with_reducible repeat (first | apply sA | apply sN | apply sD)); exact (Kd.S_mono (Kd.S_far (p := ⟨gb220, 1, none⟩) (Kd.S_far (p := ⟨gb220, 0, none⟩) (Kd.S_types HO223.out BK220.out (by decide)) (fun _ hk => hk.2) (.slice Ao34 t221.length co34)) (fun _ hk => hk.2) (.bool t224)) (fun _ h_ => h_.1)))); (case side2 => exact (Kd.S_reads' HO223.out).2.1); rintro e w36 ⟨v228, rfl, ho0, hb⟩; refine ⟨_, rfl, ?_⟩; replace HO212 := aS (Kd.S_elder' (by (with_reducible repeat (first | apply sA | apply sN | apply sD)); exact (Kd.S_mono (Kd.S_far (p := ⟨gb220, 1, none⟩) (Kd.S_far (p := ⟨gb220, 0, none⟩) (Kd.S_types HO212.out BK220.out (by decide)) (fun _ hk => hk.2) (.slice Ao34 t221.length co34)) (fun _ hk => hk.2) (.bool t224)) (fun _ h_ => h_.1))) (Kd.R_base ho0) hb); replace HO216 := aS (Kd.S_elder' (by (with_reducible repeat (first | apply sA | apply sN | apply sD)); exact (Kd.S_mono (Kd.S_far (p := ⟨gb220, 1, none⟩) (Kd.S_far (p := ⟨gb220, 0, none⟩) (Kd.S_types HO216.out BK220.out (by decide)) (fun _ hk => hk.2) (.slice Ao34 t221.length co34)) (fun _ hk => hk.2) (.bool t224)) (fun _ h_ => h_.1))) (Kd.R_base ho0) hb); replace HO223 := aS (Kd.S_elder' (by (with_reducible repeat (first | apply sA | apply sN | apply sD)); exact (Kd.S_mono (Kd.S_far (p := ⟨gb220, 1, none⟩) (Kd.S_far (p := ⟨gb220, 0, none⟩) (Kd.S_types HO223.out BK220.out (by decide)) (fun _ hk => hk.2) (.slice Ao34 t221.length co34)) (fun _ hk => hk.2) (.bool t224)) (fun _ h_ => h_.1))) (Kd.R_base ho0) hb); have HO229 := aS (Kd.R_lower ho0 (q07 (by repeat (first | (with_reducible first | exact HB.out | apply bA | apply bN | apply bD | refine bS ?_ GE220.out) | exact HB.out)))); replace BK220 := aS (q04 (g := gb220) (o := .cells #[.slice Ao34 t221.length co34, .bool t224] 24 (0, 0)) (by (with_reducible repeat (first | refine kN ?_ _ | refine kD ?_ | refine kA ?_ _)); refine q0g (cs := #[.slice Ao34 t221.length co34, .bool t217]) ?_ 1 _ rfl; (with_reducible repeat (first | refine kN ?_ _ | refine kD ?_ | refine kA ?_ _)); refine q0g (cs := #[.slice Ao31 t214.length co31, .bool t217]) ?_ 0 _ rfl; (with_reducible repeat (first | refine kN ?_ _ | refine kD ?_ | refine kA ?_ _)); exact BK220.out) hb); replace HB := aS (q01 (by repeat (first | (with_reducible first | exact HB.out | apply bA | apply bN | apply bD | refine bS ?_ GE220.out) | exact HB.out)) hb); (try clear hb); (try clear hb2); (try clear hk); (try clear hi); (try clear ho0)) | ((with_reducible refine q06 (N := 45) rfl ?_); (try (refine q0k (by rfl) ?_; dsimp only)); refine Kd.R_lit (Kd.int .i64) _ 3 ?hg (N := 45) ?hd (xs := ([0, 1] : List Int)) (inner := [.int .i64 0, .int .i64 1]) (ok := fun _ => True) (okp := fun _ => True) ?hr ?hp (fun _ hk => hk) trivial (Below.refl _ _) (Nat.le_refl _) (by simp) ?_; (case hd => rfl); (case hg => rfl); (case hr => first | (go_simp; done) | (go_simp; rfl)); (case hp => exact (Reps.one (show Kd.M (Kd.int .i64) _ _ _ 0 [.int .i64 0] from rfl) (Reps.one (show Kd.M (Kd.int .i64) _ _ _ 1 [.int .i64 1] from rfl) (Reps.none _ _)))); intro v232 w37 ho38 hb hg_ hnew_; clear hg_ hnew_; (first | rw [← Ny231.out] at ho38 | (simp only [Int.reduceToNat] at ho38; rw [← Ny231.out] at ho38)); have n0_ := aS (Kd.S_elder' (by (with_reducible repeat (first | apply sA | apply sN | apply sD)); exact HO212.out) (Kd.R_base ho38) hb); have n1_ := aS (Kd.S_elder' (by (with_reducible repeat (first | apply sA | apply sN | apply sD)); exact HO216.out) (Kd.R_base ho38) hb); have n2_ := aS (Kd.S_elder' (by (with_reducible repeat (first | apply sA | apply sN | apply sD)); exact HO223.out) (Kd.R_base ho38) hb); have n3_ := aS (Kd.R_elder' (by (with_reducible repeat (first | apply rA | apply rN | apply rD)); exact HO229.out) (Kd.R_base ho38) hb); have n4_ := aS (Kd.R_lower (Kd.R_new' ho38 (Kd.R_lt (by (with_reducible repeat (first | apply rA | apply rN | apply rD)); exact HO229.out))) (q07 (by repeat (first | (with_reducible first | exact HB.out | apply bA | apply bN | apply bD | refine bS ?_ GE220.out) | exact HB.out)))); have n5_ := aS (q04 (g := gb220) (o := .cells #[.slice Ao34 t221.length co34, .bool t224] 24 (0, 0)) (by (with_reducible repeat (first | refine kN ?_ _ | refine kD ?_ | refine kA ?_ _)); exact BK220.out) hb); have n6_ := aS (q01 (by repeat (first | (with_reducible first | exact HB.out | apply bA | apply bN | apply bD | refine bS ?_ GE220.out) | exact HB.out)) hb); clear HO212; clear HO216; clear HO223; clear HO229; clear BK220; clear HB; have HO212 := n0_; have HO216 := n1_; have HO223 := n2_; have HO229 := n3_; have HO233 := n4_; have BK220 := n5_; have HB := n6_; clear n0_ n1_ n2_ n3_ n4_ n5_ n6_; clear hb ho38; obtain ⟨Ao39, co39, eo39⟩ := Kd.R_slice HO229.out; subst eo39; obtain ⟨Ao40, co40, eo40⟩ := Kd.R_slice HO233.out; subst eo40) | (go_at_call 30; (with_reducible refine (clerestoryref1_SameInts.calls k _ _ t227 _ _ y231 false _ ?side1 ?side2 ?side3 ?side4 A9.out).mono ?_); (case side1 => repeat (first | exact (Kd.R_reads' HO229.out).2.2 | (with_reducible refine cA ?_ _) | (with_reducible refine cN ?_ _) | (with_reducible refine cD ?_))); (case side2 => exact (Kd.R_reads' HO229.out).2.1); (case side3 => repeat (first | exact (Kd.R_reads' HO233.out).2.2 | (with_reducible refine cA ?_ _) | (with_reducible refine cN ?_ _) | (with_reducible refine cD ?_))); (case side4 => exact (Kd.R_reads' HO233.out).2.1); rintro e w' ⟨rfl, ⟨nd, rfl⟩⟩))
  go_ret
  exact ⟨by first | rfl | (simp [q03, q02] <;> rfl) | (simp [*, q03, q02] <;> rfl), by repeat (first | (with_reducible first | exact HB.out | apply bA | apply bN | apply bD | refine bS ?_ GE220.out) | exact HB.out)⟩
 case n8 =>
  obtain rfl := Option.some.inj H
  go_enter Tryd.func51, Tryd.ntmps51
  go_wp2_with (first | ((with_reducible refine q09 (f := 54) rfl ?_); refine q0n (some 9) rfl rfl Tryd.func54 (by kernel_rfl) rfl #[] rfl (by (try simp only [List.map_toArray, List.map_cons, List.map_nil]); first | done | rfl | (simp only [List.length_drop, List.length_take]; rfl)) ?_; (with_reducible refine (dom_New.calls  t210 t213 _ A1.out).mono ?_); rintro e w41 ⟨v211, rfl, ho0, hb⟩; refine ⟨_, rfl, ?_⟩; have HO212 := aS (Kd.S_lower ho0 (q07 (by repeat (first | (with_reducible first | exact HB.out | apply bA | apply bN | apply bD) | exact HB.out)))); replace HB := aS (q01 (by repeat (first | (with_reducible first | exact HB.out | apply bA | apply bN | apply bD) | exact HB.out)) hb); (try clear hb); (try clear hb2); (try clear hk); (try clear hi); (try clear ho0); obtain ⟨Ao42, co42, eo42⟩ := Kd.S_slice HO212.out; subst eo42) | ((with_reducible refine q09 (f := 55) rfl ?_); refine q0n (some 12) rfl rfl Tryd.func55 (by kernel_rfl) rfl #[.agg #[.slice Ao42 t210.length co42, .bool t213], .agg #[.int .i64 4, .int .i64 0, .int .i64 0, .int .i64 0, .string (⟨#[]⟩ : ByteArray), .string (⟨#[]⟩ : ByteArray), .int .i64 2, .string (⟨#[112]⟩ : ByteArray), .slice none 0 0, .string (⟨#[]⟩ : ByteArray), .int .i64 0, .slice none 0 0]] rfl (by (try simp only [List.map_toArray, List.map_cons, List.map_nil]); first | done | rfl | (simp only [List.length_drop, List.length_take]; rfl)) ?_; (refine (dom_Apply.calls k _ _ t210 t213 4 0 0 0 (⟨#[]⟩ : ByteArray) (⟨#[]⟩ : ByteArray) 2 (⟨#[112]⟩ : ByteArray) _ _ ([] : List (S122)) (⟨#[]⟩ : ByteArray) 0 _ _ ([] : List Int) t214 t217 t218 t219 _ ?side1 ?side2 ?side3 ?side4 ?side5 ?side6 A2.out).mono ?_); (case side1 => repeat (first | exact (Kd.S_reads' HO212.out).2.2 | (with_reducible refine cA ?_ _) | (with_reducible refine cN ?_ _) | (with_reducible refine cD ?_))); (case side2 => exact (Kd.S_reads' HO212.out).2.1); (case side3 => exact Kd.C_nil _ _); (case side4 => exact Nat.le_refl _); (case side5 => exact Kd.C_nil _ _); (case side6 => exact Nat.le_refl _); rintro e w43 ⟨v215, rfl, ho0, hb⟩; refine ⟨_, rfl, ?_⟩; have n0_ := aS (Kd.S_elder' (by (with_reducible repeat (first | apply sA | apply sN | apply sD)); exact HO212.out) (Kd.S_base ho0) hb); have n1_ := aS (Kd.S_lower (Kd.S_new' ho0 (Kd.S_lt (by (with_reducible repeat (first | apply sA | apply sN | apply sD)); exact HO212.out))) (q07 (by repeat (first | (with_reducible first | exact HB.out | apply bA | apply bN | apply bD) | exact HB.out)))); have n2_ := aS (q01 (by repeat (first | (with_reducible first | exact HB.out | apply bA | apply bN | apply bD) | exact HB.out)) hb); clear HO212; clear HB; have HO212 := n0_; have HO216 := n1_; have HB := n2_; clear n0_ n1_ n2_; (try clear hb); (try clear hb2); (try clear hk); (try clear hi); (try clear ho0)) | ((with_reducible refine q06 (N := 1) rfl ?_); (try (refine q0k (by rfl) ?_; dsimp only)); refine q0i ?hg (N := 1) ?hd (cs := #[.slice none 0 0, .bool false]) (t := 24) ?hr ?_; (case hd => rfl); (case hg => rfl); (case hr => first | (go_simp; done) | (go_simp; rfl)); intro gb220 hg w44 hbox hb; replace HO212 := aS (Kd.S_below (by (with_reducible repeat (first | apply sA | apply sN | apply sD)); exact HO212.out) hb); replace HO216 := aS (Kd.S_below (by (with_reducible repeat (first | apply sA | apply sN | apply sD)); exact HO216.out) hb); have BK220 := aS (hbox); have GW220 := aS ((by rw [hg]; exact (q07 (by repeat (first | (with_reducible first | exact HB.out | apply bA | apply bN | apply bD) | exact HB.out))) : w.heap.size ≤ gb220)); have GE220 := aS ((by rw [hg]; exact (q07 (by repeat (first | (with_reducible first | exact HB.out | apply bA | apply bN | apply bD) | exact HB.out))) : w.heap.size ≤ gb220)); replace HB := aS (q01 (by repeat (first | (with_reducible first | exact HB.out | apply bA | apply bN | apply bD) | exact HB.out)) hb); clear hb hbox hg; obtain ⟨Ao45, co45, eo45⟩ := Kd.S_slice HO216.out; subst eo45; obtain ⟨hczL_0, hczL_1, hfzL_0, hfzL_1⟩ := bk2 BK220.out) | ((with_reducible refine q09 (f := 55) rfl ?_); refine q0n (some 20) rfl rfl Tryd.func55 (by kernel_rfl) rfl #[.agg #[.slice Ao45 t214.length co45, .bool t217], .agg #[.int .i64 5, .int .i64 0, .int .i64 t218, .int .i64 (-1), .string (⟨#[]⟩ : ByteArray), .string (⟨#[]⟩ : ByteArray), .int .i64 0, .string (⟨#[]⟩ : ByteArray), .slice none 0 0, .string (⟨#[]⟩ : ByteArray), .int .i64 0, .slice none 0 0]] rfl (by (try simp only [List.map_toArray, List.map_cons, List.map_nil]); first | done | rfl | (simp only [List.length_drop, List.length_take]; rfl)) ?_; (refine (dom_Apply.calls k _ _ t214 t217 5 0 t218 (-1) (⟨#[]⟩ : ByteArray) (⟨#[]⟩ : ByteArray) 0 (⟨#[]⟩ : ByteArray) _ _ ([] : List (S122)) (⟨#[]⟩ : ByteArray) 0 _ _ ([] : List Int) t221 t224 t225 t226 _ ?side1 ?side2 ?side3 ?side4 ?side5 ?side6 A3.out).mono ?_); (case side1 => refine (Kd.S_reads' (e := 43) (base := w.heap.size) (ok := fun k_ => (True ∧ some k_ ≠ (.slice Ao42 t210.length co42 : Value).ownBlock)) (n := t214.length) (c := co45) ?_).2.2; exact (by (with_reducible repeat (first | apply sA | apply sN | apply sD)); exact (Kd.S_mono (Kd.S_far (p := ⟨gb220, 1, none⟩) (Kd.S_far (p := ⟨gb220, 0, none⟩) (Kd.S_types HO216.out BK220.out (by decide)) (fun _ hk => hk.2) (.slice Ao45 t214.length co45)) (fun _ hk => hk.2) (.bool t217)) (fun _ h_ => h_.1)))); (case side2 => exact (Kd.S_reads' HO216.out).2.1); (case side3 => exact Kd.C_nil _ _); (case side4 => exact Nat.le_refl _); (case side5 => exact Kd.C_nil _ _); (case side6 => exact Nat.le_refl _); rintro e w47 ⟨v222, rfl, ho0, hb⟩; refine ⟨_, rfl, ?_⟩; have n0_ := aS (Kd.S_elder' (by (with_reducible repeat (first | apply sA | apply sN | apply sD)); exact (Kd.S_mono (Kd.S_far (p := ⟨gb220, 1, none⟩) (Kd.S_far (p := ⟨gb220, 0, none⟩) (Kd.S_types HO212.out BK220.out (by decide)) (fun _ hk => hk.2) (.slice Ao45 t214.length co45)) (fun _ hk => hk.2) (.bool t217)) (fun _ h_ => h_.1))) (Kd.S_base ho0) hb); have n1_ := aS (Kd.S_elder' (by (with_reducible repeat (first | apply sA | apply sN | apply sD)); exact (Kd.S_mono (Kd.S_far (p := ⟨gb220, 1, none⟩) (Kd.S_far (p := ⟨gb220, 0, none⟩) (Kd.S_types HO216.out BK220.out (by decide)) (fun _ hk => hk.2) (.slice Ao45 t214.length co45)) (fun _ hk => hk.2) (.bool t217)) (fun _ h_ => h_.1))) (Kd.S_base ho0) hb); have n2_ := aS (Kd.S_lower (Kd.S_new' (Kd.S_new' ho0 (Kd.S_lt (by (with_reducible repeat (first | apply sA | apply sN | apply sD)); exact (Kd.S_mono (Kd.S_far (p := ⟨gb220, 1, none⟩) (Kd.S_far (p := ⟨gb220, 0, none⟩) (Kd.S_types HO212.out BK220.out (by decide)) (fun _ hk => hk.2) (.slice Ao45 t214.length co45)) (fun _ hk => hk.2) (.bool t217)) (fun _ h_ => h_.1))))) (Kd.S_lt (by (with_reducible repeat (first | apply sA | apply sN | apply sD)); exact (Kd.S_mono (Kd.S_far (p := ⟨gb220, 1, none⟩) (Kd.S_far (p := ⟨gb220, 0, none⟩) (Kd.S_types HO216.out BK220.out (by decide)) (fun _ hk => hk.2) (.slice Ao45 t214.length co45)) (fun _ hk => hk.2) (.bool t217)) (fun _ h_ => h_.1))))) (q07 (by repeat (first | (with_reducible first | exact HB.out | apply bA | apply bN | apply bD | refine bS ?_ GE220.out) | exact HB.out)))); have n3_ := aS (q04 (g := gb220) (o := .cells #[.slice Ao45 t214.length co45, .bool t217] 24 (0, 0)) (by (with_reducible repeat (first | refine kN ?_ _ | refine kD ?_ | refine kA ?_ _)); refine q0g (cs := #[.slice Ao45 t214.length co45, .bool false]) ?_ 1 _ rfl; (with_reducible repeat (first | refine kN ?_ _ | refine kD ?_ | refine kA ?_ _)); refine q0g (cs := #[.slice none 0 0, .bool false]) ?_ 0 _ rfl; (with_reducible repeat (first | refine kN ?_ _ | refine kD ?_ | refine kA ?_ _)); exact BK220.out) hb); have n4_ := aS (q01 (by repeat (first | (with_reducible first | exact HB.out | apply bA | apply bN | apply bD | refine bS ?_ GE220.out) | exact HB.out)) hb); clear HO212; clear HO216; clear BK220; clear HB; have HO212 := n0_; have HO216 := n1_; have HO223 := n2_; have BK220 := n3_; have HB := n4_; clear n0_ n1_ n2_ n3_ n4_; (try clear hb); (try clear hb2); (try clear hk); (try clear hi); (try clear ho0); obtain ⟨Ao48, co48, eo48⟩ := Kd.S_slice HO223.out; subst eo48; obtain ⟨hczL_0, hczL_1, hfzL_0, hfzL_1⟩ := bk2 BK220.out) | ((with_reducible refine q09 (f := 59) rfl ?_); refine q0n (some 26) rfl rfl Tryd.func59 (by kernel_rfl) rfl #[.agg #[.slice Ao48 t221.length co48, .bool t224]] rfl (by (try simp only [List.map_toArray, List.map_cons, List.map_nil]); first | done | rfl | (simp only [List.length_drop, List.length_take]; rfl)) ?_; (with_reducible refine (dom_Order.calls k _ _ t221 t224 t227 t230 _ ?side1 ?side2 A4.out).mono ?_); (case side1 => refine (Kd.S_reads' (e := 43) (base := w.heap.size) (ok := fun k_ => ((True ∧ some k_ ≠ (.slice Ao42 t210.length co42 : Value).ownBlock) ∧ some k_ ≠ (.slice Ao45 t214.length co45 : Value).ownBlock)) (n := t221.length) (c := co48) ?_).2.2; exact (by (with_reducible repeat (first | apply sA | apply sN | apply sD)); exact (Kd.S_mono (Kd.S_far (p := ⟨gb220, 1, none⟩) (Kd.S_far (p := ⟨gb220, 0, none⟩) (Kd.S_types HO223.out BK220.out (by decide)) (fun _ hk => hk.2) (.slice Ao48 t221.length co48)) (fun _ hk => hk.2) (.bool t224)) (fun _ h_ => h_.1)))); (case side2 => exact (Kd.S_reads' HO223.out).2.1); rintro e w50 ⟨v228, rfl, ho0, hb⟩; refine ⟨_, rfl, ?_⟩; replace HO212 := aS (Kd.S_elder' (by (with_reducible repeat (first | apply sA | apply sN | apply sD)); exact (Kd.S_mono (Kd.S_far (p := ⟨gb220, 1, none⟩) (Kd.S_far (p := ⟨gb220, 0, none⟩) (Kd.S_types HO212.out BK220.out (by decide)) (fun _ hk => hk.2) (.slice Ao48 t221.length co48)) (fun _ hk => hk.2) (.bool t224)) (fun _ h_ => h_.1))) (Kd.R_base ho0) hb); replace HO216 := aS (Kd.S_elder' (by (with_reducible repeat (first | apply sA | apply sN | apply sD)); exact (Kd.S_mono (Kd.S_far (p := ⟨gb220, 1, none⟩) (Kd.S_far (p := ⟨gb220, 0, none⟩) (Kd.S_types HO216.out BK220.out (by decide)) (fun _ hk => hk.2) (.slice Ao48 t221.length co48)) (fun _ hk => hk.2) (.bool t224)) (fun _ h_ => h_.1))) (Kd.R_base ho0) hb); replace HO223 := aS (Kd.S_elder' (by (with_reducible repeat (first | apply sA | apply sN | apply sD)); exact (Kd.S_mono (Kd.S_far (p := ⟨gb220, 1, none⟩) (Kd.S_far (p := ⟨gb220, 0, none⟩) (Kd.S_types HO223.out BK220.out (by decide)) (fun _ hk => hk.2) (.slice Ao48 t221.length co48)) (fun _ hk => hk.2) (.bool t224)) (fun _ h_ => h_.1))) (Kd.R_base ho0) hb); have HO229 := aS (Kd.R_lower ho0 (q07 (by repeat (first | (with_reducible first | exact HB.out | apply bA | apply bN | apply bD | refine bS ?_ GE220.out) | exact HB.out)))); replace BK220 := aS (q04 (g := gb220) (o := .cells #[.slice Ao48 t221.length co48, .bool t224] 24 (0, 0)) (by (with_reducible repeat (first | refine kN ?_ _ | refine kD ?_ | refine kA ?_ _)); refine q0g (cs := #[.slice Ao48 t221.length co48, .bool t217]) ?_ 1 _ rfl; (with_reducible repeat (first | refine kN ?_ _ | refine kD ?_ | refine kA ?_ _)); refine q0g (cs := #[.slice Ao45 t214.length co45, .bool t217]) ?_ 0 _ rfl; (with_reducible repeat (first | refine kN ?_ _ | refine kD ?_ | refine kA ?_ _)); exact BK220.out) hb); replace HB := aS (q01 (by repeat (first | (with_reducible first | exact HB.out | apply bA | apply bN | apply bD | refine bS ?_ GE220.out) | exact HB.out)) hb); (try clear hb); (try clear hb2); (try clear hk); (try clear hi); (try clear ho0)))
  go_ret
  exact ⟨by first | rfl | (simp [q03, q02] <;> rfl) | (simp [*, q03, q02] <;> rfl), by repeat (first | (with_reducible first | exact HB.out | apply bA | apply bN | apply bD | refine bS ?_ GE220.out) | exact HB.out)⟩
 case n7 =>
  obtain rfl := Option.some.inj H
  go_enter Tryd.func51, Tryd.ntmps51
  go_wp2_with (first | ((with_reducible refine q09 (f := 54) rfl ?_); refine q0n (some 9) rfl rfl Tryd.func54 (by kernel_rfl) rfl #[] rfl (by (try simp only [List.map_toArray, List.map_cons, List.map_nil]); first | done | rfl | (simp only [List.length_drop, List.length_take]; rfl)) ?_; (with_reducible refine (dom_New.calls  t210 t213 _ A1.out).mono ?_); rintro e w51 ⟨v211, rfl, ho0, hb⟩; refine ⟨_, rfl, ?_⟩; have HO212 := aS (Kd.S_lower ho0 (q07 (by repeat (first | (with_reducible first | exact HB.out | apply bA | apply bN | apply bD) | exact HB.out)))); replace HB := aS (q01 (by repeat (first | (with_reducible first | exact HB.out | apply bA | apply bN | apply bD) | exact HB.out)) hb); (try clear hb); (try clear hb2); (try clear hk); (try clear hi); (try clear ho0); obtain ⟨Ao52, co52, eo52⟩ := Kd.S_slice HO212.out; subst eo52) | ((with_reducible refine q09 (f := 55) rfl ?_); refine q0n (some 12) rfl rfl Tryd.func55 (by kernel_rfl) rfl #[.agg #[.slice Ao52 t210.length co52, .bool t213], .agg #[.int .i64 4, .int .i64 0, .int .i64 0, .int .i64 0, .string (⟨#[]⟩ : ByteArray), .string (⟨#[]⟩ : ByteArray), .int .i64 2, .string (⟨#[112]⟩ : ByteArray), .slice none 0 0, .string (⟨#[]⟩ : ByteArray), .int .i64 0, .slice none 0 0]] rfl (by (try simp only [List.map_toArray, List.map_cons, List.map_nil]); first | done | rfl | (simp only [List.length_drop, List.length_take]; rfl)) ?_; (refine (dom_Apply.calls k _ _ t210 t213 4 0 0 0 (⟨#[]⟩ : ByteArray) (⟨#[]⟩ : ByteArray) 2 (⟨#[112]⟩ : ByteArray) _ _ ([] : List (S122)) (⟨#[]⟩ : ByteArray) 0 _ _ ([] : List Int) t214 t217 t218 t219 _ ?side1 ?side2 ?side3 ?side4 ?side5 ?side6 A2.out).mono ?_); (case side1 => repeat (first | exact (Kd.S_reads' HO212.out).2.2 | (with_reducible refine cA ?_ _) | (with_reducible refine cN ?_ _) | (with_reducible refine cD ?_))); (case side2 => exact (Kd.S_reads' HO212.out).2.1); (case side3 => exact Kd.C_nil _ _); (case side4 => exact Nat.le_refl _); (case side5 => exact Kd.C_nil _ _); (case side6 => exact Nat.le_refl _); rintro e w53 ⟨v215, rfl, ho0, hb⟩; refine ⟨_, rfl, ?_⟩; have n0_ := aS (Kd.S_elder' (by (with_reducible repeat (first | apply sA | apply sN | apply sD)); exact HO212.out) (Kd.S_base ho0) hb); have n1_ := aS (Kd.S_lower (Kd.S_new' ho0 (Kd.S_lt (by (with_reducible repeat (first | apply sA | apply sN | apply sD)); exact HO212.out))) (q07 (by repeat (first | (with_reducible first | exact HB.out | apply bA | apply bN | apply bD) | exact HB.out)))); have n2_ := aS (q01 (by repeat (first | (with_reducible first | exact HB.out | apply bA | apply bN | apply bD) | exact HB.out)) hb); clear HO212; clear HB; have HO212 := n0_; have HO216 := n1_; have HB := n2_; clear n0_ n1_ n2_; (try clear hb); (try clear hb2); (try clear hk); (try clear hi); (try clear ho0)) | ((with_reducible refine q06 (N := 1) rfl ?_); (try (refine q0k (by rfl) ?_; dsimp only)); refine q0i ?hg (N := 1) ?hd (cs := #[.slice none 0 0, .bool false]) (t := 24) ?hr ?_; (case hd => rfl); (case hg => rfl); (case hr => first | (go_simp; done) | (go_simp; rfl)); intro gb220 hg w54 hbox hb; replace HO212 := aS (Kd.S_below (by (with_reducible repeat (first | apply sA | apply sN | apply sD)); exact HO212.out) hb); replace HO216 := aS (Kd.S_below (by (with_reducible repeat (first | apply sA | apply sN | apply sD)); exact HO216.out) hb); have BK220 := aS (hbox); have GW220 := aS ((by rw [hg]; exact (q07 (by repeat (first | (with_reducible first | exact HB.out | apply bA | apply bN | apply bD) | exact HB.out))) : w.heap.size ≤ gb220)); have GE220 := aS ((by rw [hg]; exact (q07 (by repeat (first | (with_reducible first | exact HB.out | apply bA | apply bN | apply bD) | exact HB.out))) : w.heap.size ≤ gb220)); replace HB := aS (q01 (by repeat (first | (with_reducible first | exact HB.out | apply bA | apply bN | apply bD) | exact HB.out)) hb); clear hb hbox hg; obtain ⟨Ao55, co55, eo55⟩ := Kd.S_slice HO216.out; subst eo55; obtain ⟨hczL_0, hczL_1, hfzL_0, hfzL_1⟩ := bk2 BK220.out) | ((with_reducible refine q09 (f := 55) rfl ?_); refine q0n (some 20) rfl rfl Tryd.func55 (by kernel_rfl) rfl #[.agg #[.slice Ao55 t214.length co55, .bool t217], .agg #[.int .i64 5, .int .i64 0, .int .i64 t218, .int .i64 (-1), .string (⟨#[]⟩ : ByteArray), .string (⟨#[]⟩ : ByteArray), .int .i64 0, .string (⟨#[]⟩ : ByteArray), .slice none 0 0, .string (⟨#[]⟩ : ByteArray), .int .i64 0, .slice none 0 0]] rfl (by (try simp only [List.map_toArray, List.map_cons, List.map_nil]); first | done | rfl | (simp only [List.length_drop, List.length_take]; rfl)) ?_; (refine (dom_Apply.calls k _ _ t214 t217 5 0 t218 (-1) (⟨#[]⟩ : ByteArray) (⟨#[]⟩ : ByteArray) 0 (⟨#[]⟩ : ByteArray) _ _ ([] : List (S122)) (⟨#[]⟩ : ByteArray) 0 _ _ ([] : List Int) t221 t224 t225 t226 _ ?side1 ?side2 ?side3 ?side4 ?side5 ?side6 A3.out).mono ?_); (case side1 => refine (Kd.S_reads' (e := 43) (base := w.heap.size) (ok := fun k_ => (True ∧ some k_ ≠ (.slice Ao52 t210.length co52 : Value).ownBlock)) (n := t214.length) (c := co55) ?_).2.2; exact (by (with_reducible repeat (first | apply sA | apply sN | apply sD)); exact (Kd.S_mono (Kd.S_far (p := ⟨gb220, 1, none⟩) (Kd.S_far (p := ⟨gb220, 0, none⟩) (Kd.S_types HO216.out BK220.out (by decide)) (fun _ hk => hk.2) (.slice Ao55 t214.length co55)) (fun _ hk => hk.2) (.bool t217)) (fun _ h_ => h_.1)))); (case side2 => exact (Kd.S_reads' HO216.out).2.1); (case side3 => exact Kd.C_nil _ _); (case side4 => exact Nat.le_refl _); (case side5 => exact Kd.C_nil _ _); (case side6 => exact Nat.le_refl _); rintro e w57 ⟨v222, rfl, ho0, hb⟩; refine ⟨_, rfl, ?_⟩; have n0_ := aS (Kd.S_elder' (by (with_reducible repeat (first | apply sA | apply sN | apply sD)); exact (Kd.S_mono (Kd.S_far (p := ⟨gb220, 1, none⟩) (Kd.S_far (p := ⟨gb220, 0, none⟩) (Kd.S_types HO212.out BK220.out (by decide)) (fun _ hk => hk.2) (.slice Ao55 t214.length co55)) (fun _ hk => hk.2) (.bool t217)) (fun _ h_ => h_.1))) (Kd.S_base ho0) hb); have n1_ := aS (Kd.S_elder' (by (with_reducible repeat (first | apply sA | apply sN | apply sD)); exact (Kd.S_mono (Kd.S_far (p := ⟨gb220, 1, none⟩) (Kd.S_far (p := ⟨gb220, 0, none⟩) (Kd.S_types HO216.out BK220.out (by decide)) (fun _ hk => hk.2) (.slice Ao55 t214.length co55)) (fun _ hk => hk.2) (.bool t217)) (fun _ h_ => h_.1))) (Kd.S_base ho0) hb); have n2_ := aS (Kd.S_lower (Kd.S_new' (Kd.S_new' ho0 (Kd.S_lt (by (with_reducible repeat (first | apply sA | apply sN | apply sD)); exact (Kd.S_mono (Kd.S_far (p := ⟨gb220, 1, none⟩) (Kd.S_far (p := ⟨gb220, 0, none⟩) (Kd.S_types HO212.out BK220.out (by decide)) (fun _ hk => hk.2) (.slice Ao55 t214.length co55)) (fun _ hk => hk.2) (.bool t217)) (fun _ h_ => h_.1))))) (Kd.S_lt (by (with_reducible repeat (first | apply sA | apply sN | apply sD)); exact (Kd.S_mono (Kd.S_far (p := ⟨gb220, 1, none⟩) (Kd.S_far (p := ⟨gb220, 0, none⟩) (Kd.S_types HO216.out BK220.out (by decide)) (fun _ hk => hk.2) (.slice Ao55 t214.length co55)) (fun _ hk => hk.2) (.bool t217)) (fun _ h_ => h_.1))))) (q07 (by repeat (first | (with_reducible first | exact HB.out | apply bA | apply bN | apply bD | refine bS ?_ GE220.out) | exact HB.out)))); have n3_ := aS (q04 (g := gb220) (o := .cells #[.slice Ao55 t214.length co55, .bool t217] 24 (0, 0)) (by (with_reducible repeat (first | refine kN ?_ _ | refine kD ?_ | refine kA ?_ _)); refine q0g (cs := #[.slice Ao55 t214.length co55, .bool false]) ?_ 1 _ rfl; (with_reducible repeat (first | refine kN ?_ _ | refine kD ?_ | refine kA ?_ _)); refine q0g (cs := #[.slice none 0 0, .bool false]) ?_ 0 _ rfl; (with_reducible repeat (first | refine kN ?_ _ | refine kD ?_ | refine kA ?_ _)); exact BK220.out) hb); have n4_ := aS (q01 (by repeat (first | (with_reducible first | exact HB.out | apply bA | apply bN | apply bD | refine bS ?_ GE220.out) | exact HB.out)) hb); clear HO212; clear HO216; clear BK220; clear HB; have HO212 := n0_; have HO216 := n1_; have HO223 := n2_; have BK220 := n3_; have HB := n4_; clear n0_ n1_ n2_ n3_ n4_; (try clear hb); (try clear hb2); (try clear hk); (try clear hi); (try clear ho0); obtain ⟨Ao58, co58, eo58⟩ := Kd.S_slice HO223.out; subst eo58; obtain ⟨hczL_0, hczL_1, hfzL_0, hfzL_1⟩ := bk2 BK220.out) | ((with_reducible refine q09 (f := 59) rfl ?_); refine q0n (some 26) rfl rfl Tryd.func59 (by kernel_rfl) rfl #[.agg #[.slice Ao58 t221.length co58, .bool t224]] rfl (by (try simp only [List.map_toArray, List.map_cons, List.map_nil]); first | done | rfl | (simp only [List.length_drop, List.length_take]; rfl)) ?_; (with_reducible refine (dom_Order.calls k _ _ t221 t224 t227 t230 _ ?side1 ?side2 A4.out).mono ?_); (case side1 => refine (Kd.S_reads' (e := 43) (base := w.heap.size) (ok := fun k_ => ((True ∧ some k_ ≠ (.slice Ao52 t210.length co52 : Value).ownBlock) ∧ some k_ ≠ (.slice Ao55 t214.length co55 : Value).ownBlock)) (n := t221.length) (c := co58) ?_).2.2; exact (by (with_reducible repeat (first | apply sA | apply sN | apply sD)); exact (Kd.S_mono (Kd.S_far (p := ⟨gb220, 1, none⟩) (Kd.S_far (p := ⟨gb220, 0, none⟩) (Kd.S_types HO223.out BK220.out (by decide)) (fun _ hk => hk.2) (.slice Ao58 t221.length co58)) (fun _ hk => hk.2) (.bool t224)) (fun _ h_ => h_.1)))); (case side2 => exact (Kd.S_reads' HO223.out).2.1); rintro e w60 ⟨v228, rfl, ho0, hb⟩; refine ⟨_, rfl, ?_⟩; replace HO212 := aS (Kd.S_elder' (by (with_reducible repeat (first | apply sA | apply sN | apply sD)); exact (Kd.S_mono (Kd.S_far (p := ⟨gb220, 1, none⟩) (Kd.S_far (p := ⟨gb220, 0, none⟩) (Kd.S_types HO212.out BK220.out (by decide)) (fun _ hk => hk.2) (.slice Ao58 t221.length co58)) (fun _ hk => hk.2) (.bool t224)) (fun _ h_ => h_.1))) (Kd.R_base ho0) hb); replace HO216 := aS (Kd.S_elder' (by (with_reducible repeat (first | apply sA | apply sN | apply sD)); exact (Kd.S_mono (Kd.S_far (p := ⟨gb220, 1, none⟩) (Kd.S_far (p := ⟨gb220, 0, none⟩) (Kd.S_types HO216.out BK220.out (by decide)) (fun _ hk => hk.2) (.slice Ao58 t221.length co58)) (fun _ hk => hk.2) (.bool t224)) (fun _ h_ => h_.1))) (Kd.R_base ho0) hb); replace HO223 := aS (Kd.S_elder' (by (with_reducible repeat (first | apply sA | apply sN | apply sD)); exact (Kd.S_mono (Kd.S_far (p := ⟨gb220, 1, none⟩) (Kd.S_far (p := ⟨gb220, 0, none⟩) (Kd.S_types HO223.out BK220.out (by decide)) (fun _ hk => hk.2) (.slice Ao58 t221.length co58)) (fun _ hk => hk.2) (.bool t224)) (fun _ h_ => h_.1))) (Kd.R_base ho0) hb); have HO229 := aS (Kd.R_lower ho0 (q07 (by repeat (first | (with_reducible first | exact HB.out | apply bA | apply bN | apply bD | refine bS ?_ GE220.out) | exact HB.out)))); replace BK220 := aS (q04 (g := gb220) (o := .cells #[.slice Ao58 t221.length co58, .bool t224] 24 (0, 0)) (by (with_reducible repeat (first | refine kN ?_ _ | refine kD ?_ | refine kA ?_ _)); refine q0g (cs := #[.slice Ao58 t221.length co58, .bool t217]) ?_ 1 _ rfl; (with_reducible repeat (first | refine kN ?_ _ | refine kD ?_ | refine kA ?_ _)); refine q0g (cs := #[.slice Ao55 t214.length co55, .bool t217]) ?_ 0 _ rfl; (with_reducible repeat (first | refine kN ?_ _ | refine kD ?_ | refine kA ?_ _)); exact BK220.out) hb); replace HB := aS (q01 (by repeat (first | (with_reducible first | exact HB.out | apply bA | apply bN | apply bD | refine bS ?_ GE220.out) | exact HB.out)) hb); (try clear hb); (try clear hb2); (try clear hk); (try clear hi); (try clear ho0)))
  go_ret
  exact ⟨by first | rfl | (simp [q03, q02] <;> rfl) | (simp [*, q03, q02] <;> rfl), by repeat (first | (with_reducible first | exact HB.out | apply bA | apply bN | apply bD | refine bS ?_ GE220.out) | exact HB.out)⟩
 case n6 =>
  obtain rfl := Option.some.inj H
  go_enter Tryd.func51, Tryd.ntmps51
  go_wp2_with (first | ((with_reducible refine q09 (f := 54) rfl ?_); refine q0n (some 9) rfl rfl Tryd.func54 (by kernel_rfl) rfl #[] rfl (by (try simp only [List.map_toArray, List.map_cons, List.map_nil]); first | done | rfl | (simp only [List.length_drop, List.length_take]; rfl)) ?_; (with_reducible refine (dom_New.calls  t210 t213 _ A1.out).mono ?_); rintro e w61 ⟨v211, rfl, ho0, hb⟩; refine ⟨_, rfl, ?_⟩; have HO212 := aS (Kd.S_lower ho0 (q07 (by repeat (first | (with_reducible first | exact HB.out | apply bA | apply bN | apply bD) | exact HB.out)))); replace HB := aS (q01 (by repeat (first | (with_reducible first | exact HB.out | apply bA | apply bN | apply bD) | exact HB.out)) hb); (try clear hb); (try clear hb2); (try clear hk); (try clear hi); (try clear ho0); obtain ⟨Ao62, co62, eo62⟩ := Kd.S_slice HO212.out; subst eo62) | ((with_reducible refine q09 (f := 55) rfl ?_); refine q0n (some 12) rfl rfl Tryd.func55 (by kernel_rfl) rfl #[.agg #[.slice Ao62 t210.length co62, .bool t213], .agg #[.int .i64 4, .int .i64 0, .int .i64 0, .int .i64 0, .string (⟨#[]⟩ : ByteArray), .string (⟨#[]⟩ : ByteArray), .int .i64 2, .string (⟨#[112]⟩ : ByteArray), .slice none 0 0, .string (⟨#[]⟩ : ByteArray), .int .i64 0, .slice none 0 0]] rfl (by (try simp only [List.map_toArray, List.map_cons, List.map_nil]); first | done | rfl | (simp only [List.length_drop, List.length_take]; rfl)) ?_; (refine (dom_Apply.calls k _ _ t210 t213 4 0 0 0 (⟨#[]⟩ : ByteArray) (⟨#[]⟩ : ByteArray) 2 (⟨#[112]⟩ : ByteArray) _ _ ([] : List (S122)) (⟨#[]⟩ : ByteArray) 0 _ _ ([] : List Int) t214 t217 t218 t219 _ ?side1 ?side2 ?side3 ?side4 ?side5 ?side6 A2.out).mono ?_); (case side1 => repeat (first | exact (Kd.S_reads' HO212.out).2.2 | (with_reducible refine cA ?_ _) | (with_reducible refine cN ?_ _) | (with_reducible refine cD ?_))); (case side2 => exact (Kd.S_reads' HO212.out).2.1); (case side3 => exact Kd.C_nil _ _); (case side4 => exact Nat.le_refl _); (case side5 => exact Kd.C_nil _ _); (case side6 => exact Nat.le_refl _); rintro e w63 ⟨v215, rfl, ho0, hb⟩; refine ⟨_, rfl, ?_⟩; have n0_ := aS (Kd.S_elder' (by (with_reducible repeat (first | apply sA | apply sN | apply sD)); exact HO212.out) (Kd.S_base ho0) hb); have n1_ := aS (Kd.S_lower (Kd.S_new' ho0 (Kd.S_lt (by (with_reducible repeat (first | apply sA | apply sN | apply sD)); exact HO212.out))) (q07 (by repeat (first | (with_reducible first | exact HB.out | apply bA | apply bN | apply bD) | exact HB.out)))); have n2_ := aS (q01 (by repeat (first | (with_reducible first | exact HB.out | apply bA | apply bN | apply bD) | exact HB.out)) hb); clear HO212; clear HB; have HO212 := n0_; have HO216 := n1_; have HB := n2_; clear n0_ n1_ n2_; (try clear hb); (try clear hb2); (try clear hk); (try clear hi); (try clear ho0)) | ((with_reducible refine q06 (N := 1) rfl ?_); (try (refine q0k (by rfl) ?_; dsimp only)); refine q0i ?hg (N := 1) ?hd (cs := #[.slice none 0 0, .bool false]) (t := 24) ?hr ?_; (case hd => rfl); (case hg => rfl); (case hr => first | (go_simp; done) | (go_simp; rfl)); intro gb220 hg w64 hbox hb; replace HO212 := aS (Kd.S_below (by (with_reducible repeat (first | apply sA | apply sN | apply sD)); exact HO212.out) hb); replace HO216 := aS (Kd.S_below (by (with_reducible repeat (first | apply sA | apply sN | apply sD)); exact HO216.out) hb); have BK220 := aS (hbox); have GW220 := aS ((by rw [hg]; exact (q07 (by repeat (first | (with_reducible first | exact HB.out | apply bA | apply bN | apply bD) | exact HB.out))) : w.heap.size ≤ gb220)); have GE220 := aS ((by rw [hg]; exact (q07 (by repeat (first | (with_reducible first | exact HB.out | apply bA | apply bN | apply bD) | exact HB.out))) : w.heap.size ≤ gb220)); replace HB := aS (q01 (by repeat (first | (with_reducible first | exact HB.out | apply bA | apply bN | apply bD) | exact HB.out)) hb); clear hb hbox hg; obtain ⟨Ao65, co65, eo65⟩ := Kd.S_slice HO216.out; subst eo65; obtain ⟨hczL_0, hczL_1, hfzL_0, hfzL_1⟩ := bk2 BK220.out) | ((with_reducible refine q09 (f := 55) rfl ?_); refine q0n (some 20) rfl rfl Tryd.func55 (by kernel_rfl) rfl #[.agg #[.slice Ao65 t214.length co65, .bool t217], .agg #[.int .i64 5, .int .i64 0, .int .i64 t218, .int .i64 (-1), .string (⟨#[]⟩ : ByteArray), .string (⟨#[]⟩ : ByteArray), .int .i64 0, .string (⟨#[]⟩ : ByteArray), .slice none 0 0, .string (⟨#[]⟩ : ByteArray), .int .i64 0, .slice none 0 0]] rfl (by (try simp only [List.map_toArray, List.map_cons, List.map_nil]); first | done | rfl | (simp only [List.length_drop, List.length_take]; rfl)) ?_; (refine (dom_Apply.calls k _ _ t214 t217 5 0 t218 (-1) (⟨#[]⟩ : ByteArray) (⟨#[]⟩ : ByteArray) 0 (⟨#[]⟩ : ByteArray) _ _ ([] : List (S122)) (⟨#[]⟩ : ByteArray) 0 _ _ ([] : List Int) t221 t224 t225 t226 _ ?side1 ?side2 ?side3 ?side4 ?side5 ?side6 A3.out).mono ?_); (case side1 => refine (Kd.S_reads' (e := 43) (base := w.heap.size) (ok := fun k_ => (True ∧ some k_ ≠ (.slice Ao62 t210.length co62 : Value).ownBlock)) (n := t214.length) (c := co65) ?_).2.2; exact (by (with_reducible repeat (first | apply sA | apply sN | apply sD)); exact (Kd.S_mono (Kd.S_far (p := ⟨gb220, 1, none⟩) (Kd.S_far (p := ⟨gb220, 0, none⟩) (Kd.S_types HO216.out BK220.out (by decide)) (fun _ hk => hk.2) (.slice Ao65 t214.length co65)) (fun _ hk => hk.2) (.bool t217)) (fun _ h_ => h_.1)))); (case side2 => exact (Kd.S_reads' HO216.out).2.1); (case side3 => exact Kd.C_nil _ _); (case side4 => exact Nat.le_refl _); (case side5 => exact Kd.C_nil _ _); (case side6 => exact Nat.le_refl _); rintro e w67 ⟨v222, rfl, ho0, hb⟩; refine ⟨_, rfl, ?_⟩; have n0_ := aS (Kd.S_elder' (by (with_reducible repeat (first | apply sA | apply sN | apply sD)); exact (Kd.S_mono (Kd.S_far (p := ⟨gb220, 1, none⟩) (Kd.S_far (p := ⟨gb220, 0, none⟩) (Kd.S_types HO212.out BK220.out (by decide)) (fun _ hk => hk.2) (.slice Ao65 t214.length co65)) (fun _ hk => hk.2) (.bool t217)) (fun _ h_ => h_.1))) (Kd.S_base ho0) hb); have n1_ := aS (Kd.S_elder' (by (with_reducible repeat (first | apply sA | apply sN | apply sD)); exact (Kd.S_mono (Kd.S_far (p := ⟨gb220, 1, none⟩) (Kd.S_far (p := ⟨gb220, 0, none⟩) (Kd.S_types HO216.out BK220.out (by decide)) (fun _ hk => hk.2) (.slice Ao65 t214.length co65)) (fun _ hk => hk.2) (.bool t217)) (fun _ h_ => h_.1))) (Kd.S_base ho0) hb); have n2_ := aS (Kd.S_lower (Kd.S_new' (Kd.S_new' ho0 (Kd.S_lt (by (with_reducible repeat (first | apply sA | apply sN | apply sD)); exact (Kd.S_mono (Kd.S_far (p := ⟨gb220, 1, none⟩) (Kd.S_far (p := ⟨gb220, 0, none⟩) (Kd.S_types HO212.out BK220.out (by decide)) (fun _ hk => hk.2) (.slice Ao65 t214.length co65)) (fun _ hk => hk.2) (.bool t217)) (fun _ h_ => h_.1))))) (Kd.S_lt (by (with_reducible repeat (first | apply sA | apply sN | apply sD)); exact (Kd.S_mono (Kd.S_far (p := ⟨gb220, 1, none⟩) (Kd.S_far (p := ⟨gb220, 0, none⟩) (Kd.S_types HO216.out BK220.out (by decide)) (fun _ hk => hk.2) (.slice Ao65 t214.length co65)) (fun _ hk => hk.2) (.bool t217)) (fun _ h_ => h_.1))))) (q07 (by repeat (first | (with_reducible first | exact HB.out | apply bA | apply bN | apply bD | refine bS ?_ GE220.out) | exact HB.out)))); have n3_ := aS (q04 (g := gb220) (o := .cells #[.slice Ao65 t214.length co65, .bool t217] 24 (0, 0)) (by (with_reducible repeat (first | refine kN ?_ _ | refine kD ?_ | refine kA ?_ _)); refine q0g (cs := #[.slice Ao65 t214.length co65, .bool false]) ?_ 1 _ rfl; (with_reducible repeat (first | refine kN ?_ _ | refine kD ?_ | refine kA ?_ _)); refine q0g (cs := #[.slice none 0 0, .bool false]) ?_ 0 _ rfl; (with_reducible repeat (first | refine kN ?_ _ | refine kD ?_ | refine kA ?_ _)); exact BK220.out) hb); have n4_ := aS (q01 (by repeat (first | (with_reducible first | exact HB.out | apply bA | apply bN | apply bD | refine bS ?_ GE220.out) | exact HB.out)) hb); clear HO212; clear HO216; clear BK220; clear HB; have HO212 := n0_; have HO216 := n1_; have HO223 := n2_; have BK220 := n3_; have HB := n4_; clear n0_ n1_ n2_ n3_ n4_; (try clear hb); (try clear hb2); (try clear hk); (try clear hi); (try clear ho0); obtain ⟨Ao68, co68, eo68⟩ := Kd.S_slice HO223.out; subst eo68; obtain ⟨hczL_0, hczL_1, hfzL_0, hfzL_1⟩ := bk2 BK220.out) | ((with_reducible refine q09 (f := 59) rfl ?_); refine q0n (some 26) rfl rfl Tryd.func59 (by kernel_rfl) rfl #[.agg #[.slice Ao68 t221.length co68, .bool t224]] rfl (by (try simp only [List.map_toArray, List.map_cons, List.map_nil]); first | done | rfl | (simp only [List.length_drop, List.length_take]; rfl)) ?_; (with_reducible refine (dom_Order.calls k _ _ t221 t224 t227 t230 _ ?side1 ?side2 A4.out).mono ?_); (case side1 => refine (Kd.S_reads' (e := 43) (base := w.heap.size) (ok := fun k_ => ((True ∧ some k_ ≠ (.slice Ao62 t210.length co62 : Value).ownBlock) ∧ some k_ ≠ (.slice Ao65 t214.length co65 : Value).ownBlock)) (n := t221.length) (c := co68) ?_).2.2; exact (by (with_reducible repeat (first | apply sA | apply sN | apply sD)); exact (Kd.S_mono (Kd.S_far (p := ⟨gb220, 1, none⟩) (Kd.S_far (p := ⟨gb220, 0, none⟩) (Kd.S_types HO223.out BK220.out (by decide)) (fun _ hk => hk.2) (.slice Ao68 t221.length co68)) (fun _ hk => hk.2) (.bool t224)) (fun _ h_ => h_.1)))); (case side2 => exact (Kd.S_reads' HO223.out).2.1); rintro e w70 ⟨v228, rfl, ho0, hb⟩; refine ⟨_, rfl, ?_⟩; replace HO212 := aS (Kd.S_elder' (by (with_reducible repeat (first | apply sA | apply sN | apply sD)); exact (Kd.S_mono (Kd.S_far (p := ⟨gb220, 1, none⟩) (Kd.S_far (p := ⟨gb220, 0, none⟩) (Kd.S_types HO212.out BK220.out (by decide)) (fun _ hk => hk.2) (.slice Ao68 t221.length co68)) (fun _ hk => hk.2) (.bool t224)) (fun _ h_ => h_.1))) (Kd.R_base ho0) hb); replace HO216 := aS (Kd.S_elder' (by (with_reducible repeat (first | apply sA | apply sN | apply sD)); exact (Kd.S_mono (Kd.S_far (p := ⟨gb220, 1, none⟩) (Kd.S_far (p := ⟨gb220, 0, none⟩) (Kd.S_types HO216.out BK220.out (by decide)) (fun _ hk => hk.2) (.slice Ao68 t221.length co68)) (fun _ hk => hk.2) (.bool t224)) (fun _ h_ => h_.1))) (Kd.R_base ho0) hb); replace HO223 := aS (Kd.S_elder' (by (with_reducible repeat (first | apply sA | apply sN | apply sD)); exact (Kd.S_mono (Kd.S_far (p := ⟨gb220, 1, none⟩) (Kd.S_far (p := ⟨gb220, 0, none⟩) (Kd.S_types HO223.out BK220.out (by decide)) (fun _ hk => hk.2) (.slice Ao68 t221.length co68)) (fun _ hk => hk.2) (.bool t224)) (fun _ h_ => h_.1))) (Kd.R_base ho0) hb); have HO229 := aS (Kd.R_lower ho0 (q07 (by repeat (first | (with_reducible first | exact HB.out | apply bA | apply bN | apply bD | refine bS ?_ GE220.out) | exact HB.out)))); replace BK220 := aS (q04 (g := gb220) (o := .cells #[.slice Ao68 t221.length co68, .bool t224] 24 (0, 0)) (by (with_reducible repeat (first | refine kN ?_ _ | refine kD ?_ | refine kA ?_ _)); refine q0g (cs := #[.slice Ao68 t221.length co68, .bool t217]) ?_ 1 _ rfl; (with_reducible repeat (first | refine kN ?_ _ | refine kD ?_ | refine kA ?_ _)); refine q0g (cs := #[.slice Ao65 t214.length co65, .bool t217]) ?_ 0 _ rfl; (with_reducible repeat (first | refine kN ?_ _ | refine kD ?_ | refine kA ?_ _)); exact BK220.out) hb); replace HB := aS (q01 (by repeat (first | (with_reducible first | exact HB.out | apply bA | apply bN | apply bD | refine bS ?_ GE220.out) | exact HB.out)) hb); (try clear hb); (try clear hb2); (try clear hk); (try clear hi); (try clear ho0)))
  go_ret
  exact ⟨by first | rfl | (simp [q03, q02] <;> rfl) | (simp [*, q03, q02] <;> rfl), by repeat (first | (with_reducible first | exact HB.out | apply bA | apply bN | apply bD | refine bS ?_ GE220.out) | exact HB.out)⟩
 case n5 =>
  obtain rfl := Option.some.inj H
  go_enter Tryd.func51, Tryd.ntmps51
  go_wp2_with (first | ((with_reducible refine q09 (f := 54) rfl ?_); refine q0n (some 9) rfl rfl Tryd.func54 (by kernel_rfl) rfl #[] rfl (by (try simp only [List.map_toArray, List.map_cons, List.map_nil]); first | done | rfl | (simp only [List.length_drop, List.length_take]; rfl)) ?_; (with_reducible refine (dom_New.calls  t210 t213 _ A1.out).mono ?_); rintro e w71 ⟨v211, rfl, ho0, hb⟩; refine ⟨_, rfl, ?_⟩; have HO212 := aS (Kd.S_lower ho0 (q07 (by repeat (first | (with_reducible first | exact HB.out | apply bA | apply bN | apply bD) | exact HB.out)))); replace HB := aS (q01 (by repeat (first | (with_reducible first | exact HB.out | apply bA | apply bN | apply bD) | exact HB.out)) hb); (try clear hb); (try clear hb2); (try clear hk); (try clear hi); (try clear ho0); obtain ⟨Ao72, co72, eo72⟩ := Kd.S_slice HO212.out; subst eo72) | ((with_reducible refine q09 (f := 55) rfl ?_); refine q0n (some 12) rfl rfl Tryd.func55 (by kernel_rfl) rfl #[.agg #[.slice Ao72 t210.length co72, .bool t213], .agg #[.int .i64 4, .int .i64 0, .int .i64 0, .int .i64 0, .string (⟨#[]⟩ : ByteArray), .string (⟨#[]⟩ : ByteArray), .int .i64 2, .string (⟨#[112]⟩ : ByteArray), .slice none 0 0, .string (⟨#[]⟩ : ByteArray), .int .i64 0, .slice none 0 0]] rfl (by (try simp only [List.map_toArray, List.map_cons, List.map_nil]); first | done | rfl | (simp only [List.length_drop, List.length_take]; rfl)) ?_; (refine (dom_Apply.calls k _ _ t210 t213 4 0 0 0 (⟨#[]⟩ : ByteArray) (⟨#[]⟩ : ByteArray) 2 (⟨#[112]⟩ : ByteArray) _ _ ([] : List (S122)) (⟨#[]⟩ : ByteArray) 0 _ _ ([] : List Int) t214 t217 t218 t219 _ ?side1 ?side2 ?side3 ?side4 ?side5 ?side6 A2.out).mono ?_); (case side1 => repeat (first | exact (Kd.S_reads' HO212.out).2.2 | (with_reducible refine cA ?_ _) | (with_reducible refine cN ?_ _) | (with_reducible refine cD ?_))); (case side2 => exact (Kd.S_reads' HO212.out).2.1); (case side3 => exact Kd.C_nil _ _); (case side4 => exact Nat.le_refl _); (case side5 => exact Kd.C_nil _ _); (case side6 => exact Nat.le_refl _); rintro e w73 ⟨v215, rfl, ho0, hb⟩; refine ⟨_, rfl, ?_⟩; have n0_ := aS (Kd.S_elder' (by (with_reducible repeat (first | apply sA | apply sN | apply sD)); exact HO212.out) (Kd.S_base ho0) hb); have n1_ := aS (Kd.S_lower (Kd.S_new' ho0 (Kd.S_lt (by (with_reducible repeat (first | apply sA | apply sN | apply sD)); exact HO212.out))) (q07 (by repeat (first | (with_reducible first | exact HB.out | apply bA | apply bN | apply bD) | exact HB.out)))); have n2_ := aS (q01 (by repeat (first | (with_reducible first | exact HB.out | apply bA | apply bN | apply bD) | exact HB.out)) hb); clear HO212; clear HB; have HO212 := n0_; have HO216 := n1_; have HB := n2_; clear n0_ n1_ n2_; (try clear hb); (try clear hb2); (try clear hk); (try clear hi); (try clear ho0)) | ((with_reducible refine q06 (N := 1) rfl ?_); (try (refine q0k (by rfl) ?_; dsimp only)); refine q0i ?hg (N := 1) ?hd (cs := #[.slice none 0 0, .bool false]) (t := 24) ?hr ?_; (case hd => rfl); (case hg => rfl); (case hr => first | (go_simp; done) | (go_simp; rfl)); intro gb220 hg w74 hbox hb; replace HO212 := aS (Kd.S_below (by (with_reducible repeat (first | apply sA | apply sN | apply sD)); exact HO212.out) hb); replace HO216 := aS (Kd.S_below (by (with_reducible repeat (first | apply sA | apply sN | apply sD)); exact HO216.out) hb); have BK220 := aS (hbox); have GW220 := aS ((by rw [hg]; exact (q07 (by repeat (first | (with_reducible first | exact HB.out | apply bA | apply bN | apply bD) | exact HB.out))) : w.heap.size ≤ gb220)); have GE220 := aS ((by rw [hg]; exact (q07 (by repeat (first | (with_reducible first | exact HB.out | apply bA | apply bN | apply bD) | exact HB.out))) : w.heap.size ≤ gb220)); replace HB := aS (q01 (by repeat (first | (with_reducible first | exact HB.out | apply bA | apply bN | apply bD) | exact HB.out)) hb); clear hb hbox hg; obtain ⟨Ao75, co75, eo75⟩ := Kd.S_slice HO216.out; subst eo75; obtain ⟨hczL_0, hczL_1, hfzL_0, hfzL_1⟩ := bk2 BK220.out) | ((with_reducible refine q09 (f := 55) rfl ?_); refine q0n (some 20) rfl rfl Tryd.func55 (by kernel_rfl) rfl #[.agg #[.slice Ao75 t214.length co75, .bool t217], .agg #[.int .i64 5, .int .i64 0, .int .i64 t218, .int .i64 (-1), .string (⟨#[]⟩ : ByteArray), .string (⟨#[]⟩ : ByteArray), .int .i64 0, .string (⟨#[]⟩ : ByteArray), .slice none 0 0, .string (⟨#[]⟩ : ByteArray), .int .i64 0, .slice none 0 0]] rfl (by (try simp only [List.map_toArray, List.map_cons, List.map_nil]); first | done | rfl | (simp only [List.length_drop, List.length_take]; rfl)) ?_; (refine (dom_Apply.calls k _ _ t214 t217 5 0 t218 (-1) (⟨#[]⟩ : ByteArray) (⟨#[]⟩ : ByteArray) 0 (⟨#[]⟩ : ByteArray) _ _ ([] : List (S122)) (⟨#[]⟩ : ByteArray) 0 _ _ ([] : List Int) t221 t224 t225 t226 _ ?side1 ?side2 ?side3 ?side4 ?side5 ?side6 A3.out).mono ?_); (case side1 => refine (Kd.S_reads' (e := 43) (base := w.heap.size) (ok := fun k_ => (True ∧ some k_ ≠ (.slice Ao72 t210.length co72 : Value).ownBlock)) (n := t214.length) (c := co75) ?_).2.2; exact (by (with_reducible repeat (first | apply sA | apply sN | apply sD)); exact (Kd.S_mono (Kd.S_far (p := ⟨gb220, 1, none⟩) (Kd.S_far (p := ⟨gb220, 0, none⟩) (Kd.S_types HO216.out BK220.out (by decide)) (fun _ hk => hk.2) (.slice Ao75 t214.length co75)) (fun _ hk => hk.2) (.bool t217)) (fun _ h_ => h_.1)))); (case side2 => exact (Kd.S_reads' HO216.out).2.1); (case side3 => exact Kd.C_nil _ _); (case side4 => exact Nat.le_refl _); (case side5 => exact Kd.C_nil _ _); (case side6 => exact Nat.le_refl _); rintro e w77 ⟨v222, rfl, ho0, hb⟩; refine ⟨_, rfl, ?_⟩; have n0_ := aS (Kd.S_elder' (by (with_reducible repeat (first | apply sA | apply sN | apply sD)); exact (Kd.S_mono (Kd.S_far (p := ⟨gb220, 1, none⟩) (Kd.S_far (p := ⟨gb220, 0, none⟩) (Kd.S_types HO212.out BK220.out (by decide)) (fun _ hk => hk.2) (.slice Ao75 t214.length co75)) (fun _ hk => hk.2) (.bool t217)) (fun _ h_ => h_.1))) (Kd.S_base ho0) hb); have n1_ := aS (Kd.S_elder' (by (with_reducible repeat (first | apply sA | apply sN | apply sD)); exact (Kd.S_mono (Kd.S_far (p := ⟨gb220, 1, none⟩) (Kd.S_far (p := ⟨gb220, 0, none⟩) (Kd.S_types HO216.out BK220.out (by decide)) (fun _ hk => hk.2) (.slice Ao75 t214.length co75)) (fun _ hk => hk.2) (.bool t217)) (fun _ h_ => h_.1))) (Kd.S_base ho0) hb); have n2_ := aS (Kd.S_lower (Kd.S_new' (Kd.S_new' ho0 (Kd.S_lt (by (with_reducible repeat (first | apply sA | apply sN | apply sD)); exact (Kd.S_mono (Kd.S_far (p := ⟨gb220, 1, none⟩) (Kd.S_far (p := ⟨gb220, 0, none⟩) (Kd.S_types HO212.out BK220.out (by decide)) (fun _ hk => hk.2) (.slice Ao75 t214.length co75)) (fun _ hk => hk.2) (.bool t217)) (fun _ h_ => h_.1))))) (Kd.S_lt (by (with_reducible repeat (first | apply sA | apply sN | apply sD)); exact (Kd.S_mono (Kd.S_far (p := ⟨gb220, 1, none⟩) (Kd.S_far (p := ⟨gb220, 0, none⟩) (Kd.S_types HO216.out BK220.out (by decide)) (fun _ hk => hk.2) (.slice Ao75 t214.length co75)) (fun _ hk => hk.2) (.bool t217)) (fun _ h_ => h_.1))))) (q07 (by repeat (first | (with_reducible first | exact HB.out | apply bA | apply bN | apply bD | refine bS ?_ GE220.out) | exact HB.out)))); have n3_ := aS (q04 (g := gb220) (o := .cells #[.slice Ao75 t214.length co75, .bool t217] 24 (0, 0)) (by (with_reducible repeat (first | refine kN ?_ _ | refine kD ?_ | refine kA ?_ _)); refine q0g (cs := #[.slice Ao75 t214.length co75, .bool false]) ?_ 1 _ rfl; (with_reducible repeat (first | refine kN ?_ _ | refine kD ?_ | refine kA ?_ _)); refine q0g (cs := #[.slice none 0 0, .bool false]) ?_ 0 _ rfl; (with_reducible repeat (first | refine kN ?_ _ | refine kD ?_ | refine kA ?_ _)); exact BK220.out) hb); have n4_ := aS (q01 (by repeat (first | (with_reducible first | exact HB.out | apply bA | apply bN | apply bD | refine bS ?_ GE220.out) | exact HB.out)) hb); clear HO212; clear HO216; clear BK220; clear HB; have HO212 := n0_; have HO216 := n1_; have HO223 := n2_; have BK220 := n3_; have HB := n4_; clear n0_ n1_ n2_ n3_ n4_; (try clear hb); (try clear hb2); (try clear hk); (try clear hi); (try clear ho0); obtain ⟨Ao78, co78, eo78⟩ := Kd.S_slice HO223.out; subst eo78; obtain ⟨hczL_0, hczL_1, hfzL_0, hfzL_1⟩ := bk2 BK220.out) | ((with_reducible refine q09 (f := 59) rfl ?_); refine q0n (some 26) rfl rfl Tryd.func59 (by kernel_rfl) rfl #[.agg #[.slice Ao78 t221.length co78, .bool t224]] rfl (by (try simp only [List.map_toArray, List.map_cons, List.map_nil]); first | done | rfl | (simp only [List.length_drop, List.length_take]; rfl)) ?_; (with_reducible refine (dom_Order.calls k _ _ t221 t224 t227 t230 _ ?side1 ?side2 A4.out).mono ?_); (case side1 => refine (Kd.S_reads' (e := 43) (base := w.heap.size) (ok := fun k_ => ((True ∧ some k_ ≠ (.slice Ao72 t210.length co72 : Value).ownBlock) ∧ some k_ ≠ (.slice Ao75 t214.length co75 : Value).ownBlock)) (n := t221.length) (c := co78) ?_).2.2; exact (by (with_reducible repeat (first | apply sA | apply sN | apply sD)); exact (Kd.S_mono (Kd.S_far (p := ⟨gb220, 1, none⟩) (Kd.S_far (p := ⟨gb220, 0, none⟩) (Kd.S_types HO223.out BK220.out (by decide)) (fun _ hk => hk.2) (.slice Ao78 t221.length co78)) (fun _ hk => hk.2) (.bool t224)) (fun _ h_ => h_.1)))); (case side2 => exact (Kd.S_reads' HO223.out).2.1); rintro e w80 ⟨v228, rfl, ho0, hb⟩; refine ⟨_, rfl, ?_⟩; replace HO212 := aS (Kd.S_elder' (by (with_reducible repeat (first | apply sA | apply sN | apply sD)); exact (Kd.S_mono (Kd.S_far (p := ⟨gb220, 1, none⟩) (Kd.S_far (p := ⟨gb220, 0, none⟩) (Kd.S_types HO212.out BK220.out (by decide)) (fun _ hk => hk.2) (.slice Ao78 t221.length co78)) (fun _ hk => hk.2) (.bool t224)) (fun _ h_ => h_.1))) (Kd.R_base ho0) hb); replace HO216 := aS (Kd.S_elder' (by (with_reducible repeat (first | apply sA | apply sN | apply sD)); exact (Kd.S_mono (Kd.S_far (p := ⟨gb220, 1, none⟩) (Kd.S_far (p := ⟨gb220, 0, none⟩) (Kd.S_types HO216.out BK220.out (by decide)) (fun _ hk => hk.2) (.slice Ao78 t221.length co78)) (fun _ hk => hk.2) (.bool t224)) (fun _ h_ => h_.1))) (Kd.R_base ho0) hb); replace HO223 := aS (Kd.S_elder' (by (with_reducible repeat (first | apply sA | apply sN | apply sD)); exact (Kd.S_mono (Kd.S_far (p := ⟨gb220, 1, none⟩) (Kd.S_far (p := ⟨gb220, 0, none⟩) (Kd.S_types HO223.out BK220.out (by decide)) (fun _ hk => hk.2) (.slice Ao78 t221.length co78)) (fun _ hk => hk.2) (.bool t224)) (fun _ h_ => h_.1))) (Kd.R_base ho0) hb); have HO229 := aS (Kd.R_lower ho0 (q07 (by repeat (first | (with_reducible first | exact HB.out | apply bA | apply bN | apply bD | refine bS ?_ GE220.out) | exact HB.out)))); replace BK220 := aS (q04 (g := gb220) (o := .cells #[.slice Ao78 t221.length co78, .bool t224] 24 (0, 0)) (by (with_reducible repeat (first | refine kN ?_ _ | refine kD ?_ | refine kA ?_ _)); refine q0g (cs := #[.slice Ao78 t221.length co78, .bool t217]) ?_ 1 _ rfl; (with_reducible repeat (first | refine kN ?_ _ | refine kD ?_ | refine kA ?_ _)); refine q0g (cs := #[.slice Ao75 t214.length co75, .bool t217]) ?_ 0 _ rfl; (with_reducible repeat (first | refine kN ?_ _ | refine kD ?_ | refine kA ?_ _)); exact BK220.out) hb); replace HB := aS (q01 (by repeat (first | (with_reducible first | exact HB.out | apply bA | apply bN | apply bD | refine bS ?_ GE220.out) | exact HB.out)) hb); (try clear hb); (try clear hb2); (try clear hk); (try clear hi); (try clear ho0)))
  go_ret
  exact ⟨by first | rfl | (simp [q03, q02] <;> rfl) | (simp [*, q03, q02] <;> rfl), by repeat (first | (with_reducible first | exact HB.out | apply bA | apply bN | apply bD | refine bS ?_ GE220.out) | exact HB.out)⟩
def clerestoryref1_SameAttrs.l0 : Nat → List (S122) → List (S122) → Int → Option (Bool)
 | 0, _, _, _ => none
 | k + 1, x0, x1, x5 => if x5 < (x0.length : Int) then (if 0 ≤ x5 then (if x5 < (x1.length : Int) then (if (!((((q0a x0 x5).f0).toList) == (((q0a x1 x5).f0).toList)) || (!((((q0a x0 x5).f1).toList) == (((q0a x1 x5).f1).toList)))) = true then (some false) else (clerestoryref1_SameAttrs.l0 k x0 x1 (wrap64 (x5 + 1)))) else (none)) else (none)) else (some true)
def clerestoryref1_SameAttrs.f (k : Nat) (l0 : List (S122)) (l1 : List (S122)) : Option (Bool) := if (l0.length : Int) = (l1.length : Int) then (clerestoryref1_SameAttrs.l0 k l0 l1 0) else (some false)
theorem clerestoryref1_SameAttrs.mono_l : ∀ k, (∀ y0 y1 y2, LeO (clerestoryref1_SameAttrs.l0 k y0 y1 y2) (clerestoryref1_SameAttrs.l0 (k + 1) y0 y1 y2))
 | 0 => fun _ _ _ r h => by simp [clerestoryref1_SameAttrs.l0] at h
 | k + 1 => by
  have ih0 := clerestoryref1_SameAttrs.mono_l k
  ·intro y0 y1 y2
   unfold clerestoryref1_SameAttrs.l0
   repeat' first | with_reducible first | apply ih0 | exact LeO.refl _ | exact LeO.none _ | refine LeO.ite ?_ ?_ | refine LeO.bind ?_ (fun _ => ?_) | (first | apply ih0 | exact LeO.none _ | refine LeO.ite ?_ ?_ | refine LeO.bind ?_ (fun _ => ?_))
theorem clerestoryref1_SameAttrs.mono : ∀ a0 a1 k, LeO (clerestoryref1_SameAttrs.f k a0 a1) (clerestoryref1_SameAttrs.f (k + 1) a0 a1) := by
 intro a0 a1 k
 have ih0 := clerestoryref1_SameAttrs.mono_l k
 unfold clerestoryref1_SameAttrs.f
 repeat' first | with_reducible first | apply ih0 | exact LeO.refl _ | exact LeO.none _ | refine LeO.ite ?_ ?_ | refine LeO.bind ?_ (fun _ => ?_) | (first | apply ih0 | exact LeO.none _ | refine LeO.ite ?_ ?_ | refine LeO.bind ?_ (fun _ => ?_))
set_option maxHeartbeats 8000000 in
set_option maxRecDepth 100000 in
theorem clerestoryref1_SameAttrs.calls (k : Nat) (A0 : Option Addr) (c0 : Nat) (l0 : List (S122)) (A1 : Option Addr) (c1 : Nat) (l1 : List (S122)) (r : Bool) (w : World) (hr0 : Kd.C k122 w A0 l0.length l0) (hc0 : l0.length ≤ c0) (hr1 : Kd.C k122 w A1 l1.length l1) (hc1 : l1.length ≤ c1) (h : clerestoryref1_SameAttrs.f k l0 l1 = some r) :
 Calls Tryd.prog 138 #[.slice A0 l0.length c0, .slice A1 l1.length c1] w fun e w' => e = .returned (.bool r) ∧ Drawn0 w w' := by
 have hu122 := Tryd.underlying122
 have HR0 := aS hr0
 have HC0 := aS hc0
 clear hr0 hc0
 have HR1 := aS hr1
 have HC1 := aS hc1
 clear hr1 hc1
 have H : (if (l0.length : Int) = (l1.length : Int) then (clerestoryref1_SameAttrs.l0 k l0 l1 0) else (some false)) = some r := h
 clear h
 by_cases c3 : (l0.length : Int) = (l1.length : Int)
 ·rw [if_pos c3] at H
  have c3b0 : ((l0.length : Int) == (l1.length : Int)) = true := beq_iff_eq.mpr c3
  have c3b1 : ((l0.length : Int) != (l1.length : Int)) = false := bne_eq_false_iff_eq.mpr c3
  have c3b2 : (l0.length == l1.length) = true := by first | simpa using c3 | (simp at c3 ⊢; omega)
  clear c3
  have H' := aS H
  clear H
  go_enter Tryd.func138, Tryd.ntmps138
  go_wp2
  repeat (go_quiet (fail); try go_wp2)
  go_loopg [5] k (fun kq v5 w' => ∃ (x5_1 : Int), v5 = .int .i64 x5_1 ∧ Aside0 (clerestoryref1_SameAttrs.l0 kq l0 l1 x5_1 = some r) ∧ Aside0 (kq ≤ k) ∧ Drawn0 w w')
  case atStart => exact ⟨(0), (by first | rfl | (simp; done) | simp [*]), H', ⟨Nat.le_refl _⟩, by repeat (first | exact Drawn0.refl _ | apply Drawn0.step)⟩
  case round =>
   clear H'
   try clear c1
   try clear p2
   try clear c3
   try clear c3b0
   try clear c3b1
   try clear c3b2
   obtain ⟨x5_1, rfl, HA, HK1, ⟨m1, rfl⟩⟩ := hrel
   cases gk with
   | zero => exact absurd HA.out (by simp [clerestoryref1_SameAttrs.l0])
   | succ k1 =>
    have H := HA.out
    clear HA
    simp only [clerestoryref1_SameAttrs.l0] at H
    by_cases c4 : x5_1 < (l0.length : Int)
    ·rw [if_pos c4] at H
     have c4b0 : decide (x5_1 < (l0.length : Int)) = true := decide_eq_true c4
     clear c4
     by_cases c5 : 0 ≤ x5_1
     ·rw [if_pos c5] at H
      have c5b0 : decide (0 ≤ x5_1) = true := decide_eq_true c5
      clear c5
      by_cases c6 : x5_1 < (l1.length : Int)
      ·rw [if_pos c6] at H
       have c6b0 : decide (x5_1 < (l1.length : Int)) = true := decide_eq_true c6
       clear c6
       by_cases c7 : (!((((q0a l0 x5_1).f0).toList) == (((q0a l1 x5_1).f0).toList)) || (!((((q0a l0 x5_1).f1).toList) == (((q0a l1 x5_1).f1).toList)))) = true
       ·rw [if_pos c7] at H
        have c7b0 : (!((((q0a l0 x5_1).f0).toList) == (((q0a l1 x5_1).f0).toList)) || (!((((q0a l0 x5_1).f1).toList) == (((q0a l1 x5_1).f1).toList)))) = true := c7
        clear c7
        obtain rfl := Option.some.inj H
        have p236 : 0 ≤ (x5_1 : Int) := od (by first | (with_reducible assumption) | assumption)
        have q236 : x5_1 < (l0.length : Int) := od (by first | (with_reducible assumption) | assumption)
        obtain ⟨ad236, e236, hx236_0, hx236_1⟩ := at_T122 HR0.out x5_1 p236 q236
        cases e236
        replace p236 := eq_true p236
        replace q236 := eq_true q236
        have p237 : 0 ≤ (x5_1 : Int) := od (by first | (with_reducible assumption) | assumption)
        have q237 : x5_1 < (l1.length : Int) := od (by first | (with_reducible assumption) | assumption)
        obtain ⟨ad237, e237, hx237_0, hx237_1⟩ := at_T122 HR1.out x5_1 p237 q237
        cases e237
        replace p237 := eq_true p237
        replace q237 := eq_true q237
        go_wp2
        repeat (go_quiet (fail); try go_wp2)
        go_ret
        exact ⟨by first | rfl | (simp; done) | (simp [*]; done), by repeat (first | exact Drawn0.refl _ | apply Drawn0.step)⟩
       ·rw [if_neg c7] at H
        have c7b0 : (!((((q0a l0 x5_1).f0).toList) == (((q0a l1 x5_1).f0).toList)) || (!((((q0a l0 x5_1).f1).toList) == (((q0a l1 x5_1).f1).toList)))) = false := by simpa using c7
        clear c7
        have H' := aS H
        clear H
        have p236 : 0 ≤ (x5_1 : Int) := od (by first | (with_reducible assumption) | assumption)
        have q236 : x5_1 < (l0.length : Int) := od (by first | (with_reducible assumption) | assumption)
        obtain ⟨ad236, e236, hx236_0, hx236_1⟩ := at_T122 HR0.out x5_1 p236 q236
        cases e236
        replace p236 := eq_true p236
        replace q236 := eq_true q236
        have p237 : 0 ≤ (x5_1 : Int) := od (by first | (with_reducible assumption) | assumption)
        have q237 : x5_1 < (l1.length : Int) := od (by first | (with_reducible assumption) | assumption)
        obtain ⟨ad237, e237, hx237_0, hx237_1⟩ := at_T122 HR1.out x5_1 p237 q237
        cases e237
        replace p237 := eq_true p237
        replace q237 := eq_true q237
        go_wp2
        repeat (go_quiet (fail); try go_wp2)
        go_roundg k1
        case measure => have := HK1.out; omega
        case rel => exact ⟨(wrap64 (x5_1 + 1)), (by first | rfl | (simp; done) | simp [*]), H', ⟨by have := HK1.out; omega⟩, by repeat (first | exact Drawn0.refl _ | apply Drawn0.step)⟩
      ·rw [if_neg c6] at H
       exact absurd H (by simp)
     ·rw [if_neg c5] at H
      exact absurd H (by simp)
    ·rw [if_neg c4] at H
     have c4b0 : decide (x5_1 < (l0.length : Int)) = false := decide_eq_false c4
     clear c4
     obtain rfl := Option.some.inj H
     go_wp2
     repeat (go_quiet (fail); try go_wp2)
     go_ret
     exact ⟨by first | rfl | (simp; done) | (simp [*]; done), by repeat (first | exact Drawn0.refl _ | apply Drawn0.step)⟩
 ·rw [if_neg c3] at H
  have c3b0 : ((l0.length : Int) == (l1.length : Int)) = false := beq_eq_false_iff_ne.mpr c3
  have c3b1 : ((l0.length : Int) != (l1.length : Int)) = true := bne_iff_ne.mpr c3
  have c3b2 : (l0.length == l1.length) = false := by first | simpa using c3 | (simp at c3 ⊢; omega)
  obtain rfl := Option.some.inj H
  go_enter Tryd.func138, Tryd.ntmps138
  go_wp2
  repeat (go_quiet (fail); try go_wp2)
  go_ret
  exact ⟨by first | rfl | (simp; done) | (simp [*]; done), by repeat (first | exact Drawn0.refl _ | apply Drawn0.step)⟩
def clerestoryref1_SameNode.f (k : Nat) (a0_0 : Int) (a0_1 : ByteArray) (l0_2 : List (S122)) (a0_3 : ByteArray) (a0_4 : Int) (l0_5 : List Int) (a1_0 : Int) (a1_1 : ByteArray) (l1_2 : List (S122)) (a1_3 : ByteArray) (a1_4 : Int) (l1_5 : List Int) : Option (Bool) := if a0_0 = a1_0 then (if a0_1.toList = a1_1.toList then (if a0_3.toList = a1_3.toList then (if a0_4 = a1_4 then ((clerestoryref1_SameAttrs.f k l0_2 l1_2).bind fun t240 => (if t240 = true then ((clerestoryref1_SameInts.f k l0_5 l1_5).bind fun t241 => (some t241)) else (some false))) else (some false)) else (some false)) else (some false)) else (some false)
theorem clerestoryref1_SameNode.mono : ∀ a0 a1 a2 a3 a4 a5 a6 a7 a8 a9 a10 a11 k, LeO (clerestoryref1_SameNode.f k a0 a1 a2 a3 a4 a5 a6 a7 a8 a9 a10 a11) (clerestoryref1_SameNode.f (k + 1) a0 a1 a2 a3 a4 a5 a6 a7 a8 a9 a10 a11) := by
 intro a0 a1 a2 a3 a4 a5 a6 a7 a8 a9 a10 a11 k
 unfold clerestoryref1_SameNode.f
 repeat' first | with_reducible first | apply clerestoryref1_SameAttrs.mono | apply clerestoryref1_SameInts.mono | exact LeO.refl _ | exact LeO.none _ | refine LeO.ite ?_ ?_ | refine LeO.bind ?_ (fun _ => ?_) | (first | apply clerestoryref1_SameAttrs.mono | apply clerestoryref1_SameInts.mono | exact LeO.none _ | refine LeO.ite ?_ ?_ | refine LeO.bind ?_ (fun _ => ?_))
set_option maxHeartbeats 8000000 in
set_option maxRecDepth 100000 in
theorem clerestoryref1_SameNode.calls (k : Nat) (a0_0 : Int) (a0_1 : ByteArray) (A0_2 : Option Addr) (c0_2 : Nat) (l0_2 : List (S122)) (a0_3 : ByteArray) (a0_4 : Int) (A0_5 : Option Addr) (c0_5 : Nat) (l0_5 : List Int) (a1_0 : Int) (a1_1 : ByteArray) (A1_2 : Option Addr) (c1_2 : Nat) (l1_2 : List (S122)) (a1_3 : ByteArray) (a1_4 : Int) (A1_5 : Option Addr) (c1_5 : Nat) (l1_5 : List Int) (r : Bool) (w : World) (hr0_2 : Kd.C k122 w A0_2 l0_2.length l0_2) (hc0_2 : l0_2.length ≤ c0_2) (hr0_5 : Kd.C (Kd.int .i64) w A0_5 l0_5.length l0_5) (hc0_5 : l0_5.length ≤ c0_5) (hr1_2 : Kd.C k122 w A1_2 l1_2.length l1_2) (hc1_2 : l1_2.length ≤ c1_2) (hr1_5 : Kd.C (Kd.int .i64) w A1_5 l1_5.length l1_5) (hc1_5 : l1_5.length ≤ c1_5) (h : clerestoryref1_SameNode.f k a0_0 a0_1 l0_2 a0_3 a0_4 l0_5 a1_0 a1_1 l1_2 a1_3 a1_4 l1_5 = some r) :
 Calls Tryd.prog 103 #[.agg #[.int .i64 a0_0, .string a0_1, .slice A0_2 l0_2.length c0_2, .string a0_3, .int .i64 a0_4, .slice A0_5 l0_5.length c0_5], .agg #[.int .i64 a1_0, .string a1_1, .slice A1_2 l1_2.length c1_2, .string a1_3, .int .i64 a1_4, .slice A1_5 l1_5.length c1_5]] w fun e w' => e = .returned (.bool r) ∧ Below w.heap.size w w' := by
 have hu43 := Tryd.underlying43
 have HR0_2 := aS hr0_2
 have HC0_2 := aS hc0_2
 clear hr0_2 hc0_2
 have HR0_5 := aS hr0_5
 have HC0_5 := aS hc0_5
 clear hr0_5 hc0_5
 have HR1_2 := aS hr1_2
 have HC1_2 := aS hc1_2
 clear hr1_2 hc1_2
 have HR1_5 := aS hr1_5
 have HC1_5 := aS hc1_5
 clear hr1_5 hc1_5
 have HB := aS (Below.refl w.heap.size w)
 have H := h; clear h; unfold clerestoryref1_SameNode.f at H
 refine iE H ?p3 ?n3 <;> clear H
 case' p3 => intro c3b0 c3b1 H; refine iE H ?p4 ?n4 <;> clear H
 case' p4 => intro c4b0 c4b1 H; refine iE H ?p5 ?n5 <;> clear H
 case' p5 => intro c5b0 c5b1 H; refine iE H ?p6 ?n6 <;> clear H
 case' p6 => intro c6b0 c6b1 H; replace H := iB H; obtain ⟨t240, A7, H⟩ := H; refine iV H ?p8 ?n8 <;> clear H
 case' p8 => intro c8 H; subst c8
 case' n8 => intro c8 H; subst c8
 case' n6 => intro c6 c6b0 c6b1 H
 case' n5 => intro c5 c5b0 c5b1 H
 case' n4 => intro c4 c4b0 c4b1 H
 case' n3 => intro c3 c3b0 c3b1 H
 case p8 =>
  replace H := iB H
  obtain ⟨t241, A9, H⟩ := H
  obtain rfl := Option.some.inj H
  go_enter Tryd.func103, Tryd.ntmps103
  go_wp2_with (first | ((with_reducible refine q06 (N := 2) rfl ?_); refine box0 rfl (N := 2) rfl (cs := #[.int .i64 a0_0, .string a0_1, .slice A0_2 l0_2.length c0_2, .string a0_3, .int .i64 a0_4, .slice A0_5 l0_5.length c0_5]) (t := 43) (by first | (go_simp; done) | (go_simp; rfl)) (by repeat (first | (with_reducible first | exact HB.out | apply bA | apply bN | apply bD) | exact HB.out)) ?_; clear HB; intro gb238 w10 BK238 GW238 HB; have GE238 := GW238) | ((with_reducible refine q06 (N := 3) rfl ?_); refine q0i ?hg (N := 3) ?hd (cs := #[.int .i64 a1_0, .string a1_1, .slice A1_2 l1_2.length c1_2, .string a1_3, .int .i64 a1_4, .slice A1_5 l1_5.length c1_5]) (t := 43) ?hr ?_; (case hd => rfl); (case hg => rfl); (case hr => first | (go_simp; done) | (go_simp; rfl)); intro gb239 hg w11 hbox hb; have n0_ := aS (q04 (g := gb238) (o := .cells #[.int .i64 a0_0, .string a0_1, .slice A0_2 l0_2.length c0_2, .string a0_3, .int .i64 a0_4, .slice A0_5 l0_5.length c0_5] 43 (0, 0)) (by (with_reducible repeat (first | refine kN ?_ _ | refine kD ?_ | refine kA ?_ _)); exact BK238.out) hb); have n1_ := aS (q01 (by repeat (first | (with_reducible first | exact HB.out | apply bA | apply bN | apply bD | refine bS ?_ GE238.out) | exact HB.out)) hb); have n2_ := aS (hbox); have n3_ := aS ((by rw [hg]; exact (q07 (by repeat (first | (with_reducible first | exact HB.out | apply bA | apply bN | apply bD | refine bS ?_ GE238.out) | exact HB.out))) : w.heap.size ≤ gb239)); have n4_ := aS ((by rw [hg]; exact (q07 (by repeat (first | (with_reducible first | exact HB.out | apply bA | apply bN | apply bD | refine bS ?_ GE238.out) | exact HB.out))) : w.heap.size ≤ gb239)); have n5_ := aS ((by rw [hg]; exact Nat.ne_of_lt (q0c (g := gb238) (o := .cells #[.int .i64 a0_0, .string a0_1, .slice A0_2 l0_2.length c0_2, .string a0_3, .int .i64 a0_4, .slice A0_5 l0_5.length c0_5] 43 (0, 0)) (by (with_reducible repeat (first | refine kN ?_ _ | refine kD ?_ | refine kA ?_ _)); exact BK238.out)) : gb238 ≠ gb239)); have n6_ := aS ((by rw [hg]; exact Nat.ne_of_gt (q0c (g := gb238) (o := .cells #[.int .i64 a0_0, .string a0_1, .slice A0_2 l0_2.length c0_2, .string a0_3, .int .i64 a0_4, .slice A0_5 l0_5.length c0_5] 43 (0, 0)) (by (with_reducible repeat (first | refine kN ?_ _ | refine kD ?_ | refine kA ?_ _)); exact BK238.out)) : gb239 ≠ gb238)); clear BK238; clear HB; have BK238 := n0_; have HB := n1_; have BK239 := n2_; have GW239 := n3_; have GE239 := n4_; have NB238_239 := n5_; have NB239_238 := n6_; clear n0_ n1_ n2_ n3_ n4_ n5_ n6_; clear hb hbox hg; have hnb12 := NB238_239.out; have hnc12 := NB239_238.out; obtain ⟨hczL_0, hczL_1, hczL_2, hczL_3, hczL_4, hczL_5, hfzL_0, hfzL_1, hfzL_2, hfzL_3, hfzL_4, hfzL_5⟩ := bk6 BK238.out; obtain ⟨hczL_0, hczL_1, hczL_2, hczL_3, hczL_4, hczL_5, hfzL_0, hfzL_1, hfzL_2, hfzL_3, hfzL_4, hfzL_5⟩ := bk6 BK239.out) | (go_at_call 138; (with_reducible refine (clerestoryref1_SameAttrs.calls k _ _ l0_2 _ _ l1_2 true _ ?side1 ?side2 ?side3 ?side4 A7.out).mono ?_); (case side1 => repeat (first | exact (Kd.C_below HR0_2.out HB.out) | (with_reducible refine cA ?_ _) | (with_reducible refine cN ?_ _) | (with_reducible refine cD ?_))); (case side2 => exact HC0_2.out); (case side3 => repeat (first | exact (Kd.C_below HR1_2.out HB.out) | (with_reducible refine cA ?_ _) | (with_reducible refine cN ?_ _) | (with_reducible refine cD ?_))); (case side4 => exact HC1_2.out); rintro e w' ⟨rfl, ⟨nd, rfl⟩⟩) | (go_at_call 30; (with_reducible refine (clerestoryref1_SameInts.calls k _ _ l0_5 _ _ l1_5 t241 _ ?side1 ?side2 ?side3 ?side4 A9.out).mono ?_); (case side1 => repeat (first | exact (Kd.C_below HR0_5.out (by repeat (first | (with_reducible first | exact HB.out | apply bA | apply bN | apply bD | refine bS ?_ GE238.out | refine bS ?_ GE239.out) | exact HB.out))) | (with_reducible refine cA ?_ _) | (with_reducible refine cN ?_ _) | (with_reducible refine cD ?_))); (case side2 => exact HC0_5.out); (case side3 => repeat (first | exact (Kd.C_below HR1_5.out (by repeat (first | (with_reducible first | exact HB.out | apply bA | apply bN | apply bD | refine bS ?_ GE238.out | refine bS ?_ GE239.out) | exact HB.out))) | (with_reducible refine cA ?_ _) | (with_reducible refine cN ?_ _) | (with_reducible refine cD ?_))); (case side4 => exact HC1_5.out); rintro e w' ⟨rfl, ⟨nd, rfl⟩⟩))
  go_ret
  exact ⟨by first | rfl | (simp [q03, q02] <;> rfl) | (simp [*, q03, q02] <;> rfl), by repeat (first | (with_reducible first | exact HB.out | apply bA | apply bN | apply bD | refine bS ?_ GE238.out | refine bS ?_ GE239.out) | exact HB.out)⟩
 case n8 =>
  obtain rfl := Option.some.inj H
  go_enter Tryd.func103, Tryd.ntmps103
  go_wp2_with (first | ((with_reducible refine q06 (N := 2) rfl ?_); refine box0 rfl (N := 2) rfl (cs := #[.int .i64 a0_0, .string a0_1, .slice A0_2 l0_2.length c0_2, .string a0_3, .int .i64 a0_4, .slice A0_5 l0_5.length c0_5]) (t := 43) (by first | (go_simp; done) | (go_simp; rfl)) (by repeat (first | (with_reducible first | exact HB.out | apply bA | apply bN | apply bD) | exact HB.out)) ?_; clear HB; intro gb238 w15 BK238 GW238 HB; have GE238 := GW238) | ((with_reducible refine q06 (N := 3) rfl ?_); refine q0i ?hg (N := 3) ?hd (cs := #[.int .i64 a1_0, .string a1_1, .slice A1_2 l1_2.length c1_2, .string a1_3, .int .i64 a1_4, .slice A1_5 l1_5.length c1_5]) (t := 43) ?hr ?_; (case hd => rfl); (case hg => rfl); (case hr => first | (go_simp; done) | (go_simp; rfl)); intro gb239 hg w16 hbox hb; have n0_ := aS (q04 (g := gb238) (o := .cells #[.int .i64 a0_0, .string a0_1, .slice A0_2 l0_2.length c0_2, .string a0_3, .int .i64 a0_4, .slice A0_5 l0_5.length c0_5] 43 (0, 0)) (by (with_reducible repeat (first | refine kN ?_ _ | refine kD ?_ | refine kA ?_ _)); exact BK238.out) hb); have n1_ := aS (q01 (by repeat (first | (with_reducible first | exact HB.out | apply bA | apply bN | apply bD | refine bS ?_ GE238.out) | exact HB.out)) hb); have n2_ := aS (hbox); have n3_ := aS ((by rw [hg]; exact (q07 (by repeat (first | (with_reducible first | exact HB.out | apply bA | apply bN | apply bD | refine bS ?_ GE238.out) | exact HB.out))) : w.heap.size ≤ gb239)); have n4_ := aS ((by rw [hg]; exact (q07 (by repeat (first | (with_reducible first | exact HB.out | apply bA | apply bN | apply bD | refine bS ?_ GE238.out) | exact HB.out))) : w.heap.size ≤ gb239)); have n5_ := aS ((by rw [hg]; exact Nat.ne_of_lt (q0c (g := gb238) (o := .cells #[.int .i64 a0_0, .string a0_1, .slice A0_2 l0_2.length c0_2, .string a0_3, .int .i64 a0_4, .slice A0_5 l0_5.length c0_5] 43 (0, 0)) (by (with_reducible repeat (first | refine kN ?_ _ | refine kD ?_ | refine kA ?_ _)); exact BK238.out)) : gb238 ≠ gb239)); have n6_ := aS ((by rw [hg]; exact Nat.ne_of_gt (q0c (g := gb238) (o := .cells #[.int .i64 a0_0, .string a0_1, .slice A0_2 l0_2.length c0_2, .string a0_3, .int .i64 a0_4, .slice A0_5 l0_5.length c0_5] 43 (0, 0)) (by (with_reducible repeat (first | refine kN ?_ _ | refine kD ?_ | refine kA ?_ _)); exact BK238.out)) : gb239 ≠ gb238)); clear BK238; clear HB; have BK238 := n0_; have HB := n1_; have BK239 := n2_; have GW239 := n3_; have GE239 := n4_; have NB238_239 := n5_; have NB239_238 := n6_; clear n0_ n1_ n2_ n3_ n4_ n5_ n6_; clear hb hbox hg; have hnb17 := NB238_239.out; have hnc17 := NB239_238.out; obtain ⟨hczL_0, hczL_1, hczL_2, hczL_3, hczL_4, hczL_5, hfzL_0, hfzL_1, hfzL_2, hfzL_3, hfzL_4, hfzL_5⟩ := bk6 BK238.out; obtain ⟨hczL_0, hczL_1, hczL_2, hczL_3, hczL_4, hczL_5, hfzL_0, hfzL_1, hfzL_2, hfzL_3, hfzL_4, hfzL_5⟩ := bk6 BK239.out) | (go_at_call 138; (with_reducible refine (clerestoryref1_SameAttrs.calls k _ _ l0_2 _ _ l1_2 false _ ?side1 ?side2 ?side3 ?side4 A7.out).mono ?_); (case side1 => repeat (first | exact (Kd.C_below HR0_2.out HB.out) | (with_reducible refine cA ?_ _) | (with_reducible refine cN ?_ _) | (with_reducible refine cD ?_))); (case side2 => exact HC0_2.out); (case side3 => repeat (first | exact (Kd.C_below HR1_2.out HB.out) | (with_reducible refine cA ?_ _) | (with_reducible refine cN ?_ _) | (with_reducible refine cD ?_))); (case side4 => exact HC1_2.out); rintro e w' ⟨rfl, ⟨nd, rfl⟩⟩))
  go_ret
  exact ⟨by first | rfl | (simp [q03, q02] <;> rfl) | (simp [*, q03, q02] <;> rfl), by repeat (first | (with_reducible first | exact HB.out | apply bA | apply bN | apply bD | refine bS ?_ GE238.out | refine bS ?_ GE239.out) | exact HB.out)⟩
 case n6 =>
  obtain rfl := Option.some.inj H
  go_enter Tryd.func103, Tryd.ntmps103
  go_wp2_with (first | ((with_reducible refine q06 (N := 2) rfl ?_); refine box0 rfl (N := 2) rfl (cs := #[.int .i64 a0_0, .string a0_1, .slice A0_2 l0_2.length c0_2, .string a0_3, .int .i64 a0_4, .slice A0_5 l0_5.length c0_5]) (t := 43) (by first | (go_simp; done) | (go_simp; rfl)) (by repeat (first | (with_reducible first | exact HB.out | apply bA | apply bN | apply bD) | exact HB.out)) ?_; clear HB; intro gb238 w20 BK238 GW238 HB; have GE238 := GW238) | ((with_reducible refine q06 (N := 3) rfl ?_); refine q0i ?hg (N := 3) ?hd (cs := #[.int .i64 a1_0, .string a1_1, .slice A1_2 l1_2.length c1_2, .string a1_3, .int .i64 a1_4, .slice A1_5 l1_5.length c1_5]) (t := 43) ?hr ?_; (case hd => rfl); (case hg => rfl); (case hr => first | (go_simp; done) | (go_simp; rfl)); intro gb239 hg w21 hbox hb; have n0_ := aS (q04 (g := gb238) (o := .cells #[.int .i64 a0_0, .string a0_1, .slice A0_2 l0_2.length c0_2, .string a0_3, .int .i64 a0_4, .slice A0_5 l0_5.length c0_5] 43 (0, 0)) (by (with_reducible repeat (first | refine kN ?_ _ | refine kD ?_ | refine kA ?_ _)); exact BK238.out) hb); have n1_ := aS (q01 (by repeat (first | (with_reducible first | exact HB.out | apply bA | apply bN | apply bD | refine bS ?_ GE238.out) | exact HB.out)) hb); have n2_ := aS (hbox); have n3_ := aS ((by rw [hg]; exact (q07 (by repeat (first | (with_reducible first | exact HB.out | apply bA | apply bN | apply bD | refine bS ?_ GE238.out) | exact HB.out))) : w.heap.size ≤ gb239)); have n4_ := aS ((by rw [hg]; exact (q07 (by repeat (first | (with_reducible first | exact HB.out | apply bA | apply bN | apply bD | refine bS ?_ GE238.out) | exact HB.out))) : w.heap.size ≤ gb239)); have n5_ := aS ((by rw [hg]; exact Nat.ne_of_lt (q0c (g := gb238) (o := .cells #[.int .i64 a0_0, .string a0_1, .slice A0_2 l0_2.length c0_2, .string a0_3, .int .i64 a0_4, .slice A0_5 l0_5.length c0_5] 43 (0, 0)) (by (with_reducible repeat (first | refine kN ?_ _ | refine kD ?_ | refine kA ?_ _)); exact BK238.out)) : gb238 ≠ gb239)); have n6_ := aS ((by rw [hg]; exact Nat.ne_of_gt (q0c (g := gb238) (o := .cells #[.int .i64 a0_0, .string a0_1, .slice A0_2 l0_2.length c0_2, .string a0_3, .int .i64 a0_4, .slice A0_5 l0_5.length c0_5] 43 (0, 0)) (by (with_reducible repeat (first | refine kN ?_ _ | refine kD ?_ | refine kA ?_ _)); exact BK238.out)) : gb239 ≠ gb238)); clear BK238; clear HB; have BK238 := n0_; have HB := n1_; have BK239 := n2_; have GW239 := n3_; have GE239 := n4_; have NB238_239 := n5_; have NB239_238 := n6_; clear n0_ n1_ n2_ n3_ n4_ n5_ n6_; clear hb hbox hg; have hnb22 := NB238_239.out; have hnc22 := NB239_238.out; obtain ⟨hczL_0, hczL_1, hczL_2, hczL_3, hczL_4, hczL_5, hfzL_0, hfzL_1, hfzL_2, hfzL_3, hfzL_4, hfzL_5⟩ := bk6 BK238.out; obtain ⟨hczL_0, hczL_1, hczL_2, hczL_3, hczL_4, hczL_5, hfzL_0, hfzL_1, hfzL_2, hfzL_3, hfzL_4, hfzL_5⟩ := bk6 BK239.out))
  go_ret
  exact ⟨by first | rfl | (simp [q03, q02] <;> rfl) | (simp [*, q03, q02] <;> rfl), by repeat (first | (with_reducible first | exact HB.out | apply bA | apply bN | apply bD | refine bS ?_ GE238.out | refine bS ?_ GE239.out) | exact HB.out)⟩
 case n5 =>
  obtain rfl := Option.some.inj H
  go_enter Tryd.func103, Tryd.ntmps103
  go_wp2_with (first | ((with_reducible refine q06 (N := 2) rfl ?_); refine box0 rfl (N := 2) rfl (cs := #[.int .i64 a0_0, .string a0_1, .slice A0_2 l0_2.length c0_2, .string a0_3, .int .i64 a0_4, .slice A0_5 l0_5.length c0_5]) (t := 43) (by first | (go_simp; done) | (go_simp; rfl)) (by repeat (first | (with_reducible first | exact HB.out | apply bA | apply bN | apply bD) | exact HB.out)) ?_; clear HB; intro gb238 w25 BK238 GW238 HB; have GE238 := GW238) | ((with_reducible refine q06 (N := 3) rfl ?_); refine q0i ?hg (N := 3) ?hd (cs := #[.int .i64 a1_0, .string a1_1, .slice A1_2 l1_2.length c1_2, .string a1_3, .int .i64 a1_4, .slice A1_5 l1_5.length c1_5]) (t := 43) ?hr ?_; (case hd => rfl); (case hg => rfl); (case hr => first | (go_simp; done) | (go_simp; rfl)); intro gb239 hg w26 hbox hb; have n0_ := aS (q04 (g := gb238) (o := .cells #[.int .i64 a0_0, .string a0_1, .slice A0_2 l0_2.length c0_2, .string a0_3, .int .i64 a0_4, .slice A0_5 l0_5.length c0_5] 43 (0, 0)) (by (with_reducible repeat (first | refine kN ?_ _ | refine kD ?_ | refine kA ?_ _)); exact BK238.out) hb); have n1_ := aS (q01 (by repeat (first | (with_reducible first | exact HB.out | apply bA | apply bN | apply bD | refine bS ?_ GE238.out) | exact HB.out)) hb); have n2_ := aS (hbox); have n3_ := aS ((by rw [hg]; exact (q07 (by repeat (first | (with_reducible first | exact HB.out | apply bA | apply bN | apply bD | refine bS ?_ GE238.out) | exact HB.out))) : w.heap.size ≤ gb239)); have n4_ := aS ((by rw [hg]; exact (q07 (by repeat (first | (with_reducible first | exact HB.out | apply bA | apply bN | apply bD | refine bS ?_ GE238.out) | exact HB.out))) : w.heap.size ≤ gb239)); have n5_ := aS ((by rw [hg]; exact Nat.ne_of_lt (q0c (g := gb238) (o := .cells #[.int .i64 a0_0, .string a0_1, .slice A0_2 l0_2.length c0_2, .string a0_3, .int .i64 a0_4, .slice A0_5 l0_5.length c0_5] 43 (0, 0)) (by (with_reducible repeat (first | refine kN ?_ _ | refine kD ?_ | refine kA ?_ _)); exact BK238.out)) : gb238 ≠ gb239)); have n6_ := aS ((by rw [hg]; exact Nat.ne_of_gt (q0c (g := gb238) (o := .cells #[.int .i64 a0_0, .string a0_1, .slice A0_2 l0_2.length c0_2, .string a0_3, .int .i64 a0_4, .slice A0_5 l0_5.length c0_5] 43 (0, 0)) (by (with_reducible repeat (first | refine kN ?_ _ | refine kD ?_ | refine kA ?_ _)); exact BK238.out)) : gb239 ≠ gb238)); clear BK238; clear HB; have BK238 := n0_; have HB := n1_; have BK239 := n2_; have GW239 := n3_; have GE239 := n4_; have NB238_239 := n5_; have NB239_238 := n6_; clear n0_ n1_ n2_ n3_ n4_ n5_ n6_; clear hb hbox hg; have hnb27 := NB238_239.out; have hnc27 := NB239_238.out; obtain ⟨hczL_0, hczL_1, hczL_2, hczL_3, hczL_4, hczL_5, hfzL_0, hfzL_1, hfzL_2, hfzL_3, hfzL_4, hfzL_5⟩ := bk6 BK238.out; obtain ⟨hczL_0, hczL_1, hczL_2, hczL_3, hczL_4, hczL_5, hfzL_0, hfzL_1, hfzL_2, hfzL_3, hfzL_4, hfzL_5⟩ := bk6 BK239.out))
  go_ret
  exact ⟨by first | rfl | (simp [q03, q02] <;> rfl) | (simp [*, q03, q02] <;> rfl), by repeat (first | (with_reducible first | exact HB.out | apply bA | apply bN | apply bD | refine bS ?_ GE238.out | refine bS ?_ GE239.out) | exact HB.out)⟩
 case n4 =>
  obtain rfl := Option.some.inj H
  go_enter Tryd.func103, Tryd.ntmps103
  go_wp2_with (first | ((with_reducible refine q06 (N := 2) rfl ?_); refine box0 rfl (N := 2) rfl (cs := #[.int .i64 a0_0, .string a0_1, .slice A0_2 l0_2.length c0_2, .string a0_3, .int .i64 a0_4, .slice A0_5 l0_5.length c0_5]) (t := 43) (by first | (go_simp; done) | (go_simp; rfl)) (by repeat (first | (with_reducible first | exact HB.out | apply bA | apply bN | apply bD) | exact HB.out)) ?_; clear HB; intro gb238 w30 BK238 GW238 HB; have GE238 := GW238) | ((with_reducible refine q06 (N := 3) rfl ?_); refine q0i ?hg (N := 3) ?hd (cs := #[.int .i64 a1_0, .string a1_1, .slice A1_2 l1_2.length c1_2, .string a1_3, .int .i64 a1_4, .slice A1_5 l1_5.length c1_5]) (t := 43) ?hr ?_; (case hd => rfl); (case hg => rfl); (case hr => first | (go_simp; done) | (go_simp; rfl)); intro gb239 hg w31 hbox hb; have n0_ := aS (q04 (g := gb238) (o := .cells #[.int .i64 a0_0, .string a0_1, .slice A0_2 l0_2.length c0_2, .string a0_3, .int .i64 a0_4, .slice A0_5 l0_5.length c0_5] 43 (0, 0)) (by (with_reducible repeat (first | refine kN ?_ _ | refine kD ?_ | refine kA ?_ _)); exact BK238.out) hb); have n1_ := aS (q01 (by repeat (first | (with_reducible first | exact HB.out | apply bA | apply bN | apply bD | refine bS ?_ GE238.out) | exact HB.out)) hb); have n2_ := aS (hbox); have n3_ := aS ((by rw [hg]; exact (q07 (by repeat (first | (with_reducible first | exact HB.out | apply bA | apply bN | apply bD | refine bS ?_ GE238.out) | exact HB.out))) : w.heap.size ≤ gb239)); have n4_ := aS ((by rw [hg]; exact (q07 (by repeat (first | (with_reducible first | exact HB.out | apply bA | apply bN | apply bD | refine bS ?_ GE238.out) | exact HB.out))) : w.heap.size ≤ gb239)); have n5_ := aS ((by rw [hg]; exact Nat.ne_of_lt (q0c (g := gb238) (o := .cells #[.int .i64 a0_0, .string a0_1, .slice A0_2 l0_2.length c0_2, .string a0_3, .int .i64 a0_4, .slice A0_5 l0_5.length c0_5] 43 (0, 0)) (by (with_reducible repeat (first | refine kN ?_ _ | refine kD ?_ | refine kA ?_ _)); exact BK238.out)) : gb238 ≠ gb239)); have n6_ := aS ((by rw [hg]; exact Nat.ne_of_gt (q0c (g := gb238) (o := .cells #[.int .i64 a0_0, .string a0_1, .slice A0_2 l0_2.length c0_2, .string a0_3, .int .i64 a0_4, .slice A0_5 l0_5.length c0_5] 43 (0, 0)) (by (with_reducible repeat (first | refine kN ?_ _ | refine kD ?_ | refine kA ?_ _)); exact BK238.out)) : gb239 ≠ gb238)); clear BK238; clear HB; have BK238 := n0_; have HB := n1_; have BK239 := n2_; have GW239 := n3_; have GE239 := n4_; have NB238_239 := n5_; have NB239_238 := n6_; clear n0_ n1_ n2_ n3_ n4_ n5_ n6_; clear hb hbox hg; have hnb32 := NB238_239.out; have hnc32 := NB239_238.out; obtain ⟨hczL_0, hczL_1, hczL_2, hczL_3, hczL_4, hczL_5, hfzL_0, hfzL_1, hfzL_2, hfzL_3, hfzL_4, hfzL_5⟩ := bk6 BK238.out; obtain ⟨hczL_0, hczL_1, hczL_2, hczL_3, hczL_4, hczL_5, hfzL_0, hfzL_1, hfzL_2, hfzL_3, hfzL_4, hfzL_5⟩ := bk6 BK239.out))
  go_ret
  exact ⟨by first | rfl | (simp [q03, q02] <;> rfl) | (simp [*, q03, q02] <;> rfl), by repeat (first | (with_reducible first | exact HB.out | apply bA | apply bN | apply bD | refine bS ?_ GE238.out | refine bS ?_ GE239.out) | exact HB.out)⟩
 case n3 =>
  obtain rfl := Option.some.inj H
  go_enter Tryd.func103, Tryd.ntmps103
  go_wp2_with (first | ((with_reducible refine q06 (N := 2) rfl ?_); refine box0 rfl (N := 2) rfl (cs := #[.int .i64 a0_0, .string a0_1, .slice A0_2 l0_2.length c0_2, .string a0_3, .int .i64 a0_4, .slice A0_5 l0_5.length c0_5]) (t := 43) (by first | (go_simp; done) | (go_simp; rfl)) (by repeat (first | (with_reducible first | exact HB.out | apply bA | apply bN | apply bD) | exact HB.out)) ?_; clear HB; intro gb238 w35 BK238 GW238 HB; have GE238 := GW238) | ((with_reducible refine q06 (N := 3) rfl ?_); refine q0i ?hg (N := 3) ?hd (cs := #[.int .i64 a1_0, .string a1_1, .slice A1_2 l1_2.length c1_2, .string a1_3, .int .i64 a1_4, .slice A1_5 l1_5.length c1_5]) (t := 43) ?hr ?_; (case hd => rfl); (case hg => rfl); (case hr => first | (go_simp; done) | (go_simp; rfl)); intro gb239 hg w36 hbox hb; have n0_ := aS (q04 (g := gb238) (o := .cells #[.int .i64 a0_0, .string a0_1, .slice A0_2 l0_2.length c0_2, .string a0_3, .int .i64 a0_4, .slice A0_5 l0_5.length c0_5] 43 (0, 0)) (by (with_reducible repeat (first | refine kN ?_ _ | refine kD ?_ | refine kA ?_ _)); exact BK238.out) hb); have n1_ := aS (q01 (by repeat (first | (with_reducible first | exact HB.out | apply bA | apply bN | apply bD | refine bS ?_ GE238.out) | exact HB.out)) hb); have n2_ := aS (hbox); have n3_ := aS ((by rw [hg]; exact (q07 (by repeat (first | (with_reducible first | exact HB.out | apply bA | apply bN | apply bD | refine bS ?_ GE238.out) | exact HB.out))) : w.heap.size ≤ gb239)); have n4_ := aS ((by rw [hg]; exact (q07 (by repeat (first | (with_reducible first | exact HB.out | apply bA | apply bN | apply bD | refine bS ?_ GE238.out) | exact HB.out))) : w.heap.size ≤ gb239)); have n5_ := aS ((by rw [hg]; exact Nat.ne_of_lt (q0c (g := gb238) (o := .cells #[.int .i64 a0_0, .string a0_1, .slice A0_2 l0_2.length c0_2, .string a0_3, .int .i64 a0_4, .slice A0_5 l0_5.length c0_5] 43 (0, 0)) (by (with_reducible repeat (first | refine kN ?_ _ | refine kD ?_ | refine kA ?_ _)); exact BK238.out)) : gb238 ≠ gb239)); have n6_ := aS ((by rw [hg]; exact Nat.ne_of_gt (q0c (g := gb238) (o := .cells #[.int .i64 a0_0, .string a0_1, .slice A0_2 l0_2.length c0_2, .string a0_3, .int .i64 a0_4, .slice A0_5 l0_5.length c0_5] 43 (0, 0)) (by (with_reducible repeat (first | refine kN ?_ _ | refine kD ?_ | refine kA ?_ _)); exact BK238.out)) : gb239 ≠ gb238)); clear BK238; clear HB; have BK238 := n0_; have HB := n1_; have BK239 := n2_; have GW239 := n3_; have GE239 := n4_; have NB238_239 := n5_; have NB239_238 := n6_; clear n0_ n1_ n2_ n3_ n4_ n5_ n6_; clear hb hbox hg; have hnb37 := NB238_239.out; have hnc37 := NB239_238.out; obtain ⟨hczL_0, hczL_1, hczL_2, hczL_3, hczL_4, hczL_5, hfzL_0, hfzL_1, hfzL_2, hfzL_3, hfzL_4, hfzL_5⟩ := bk6 BK238.out; obtain ⟨hczL_0, hczL_1, hczL_2, hczL_3, hczL_4, hczL_5, hfzL_0, hfzL_1, hfzL_2, hfzL_3, hfzL_4, hfzL_5⟩ := bk6 BK239.out))
  go_ret
  exact ⟨by first | rfl | (simp [q03, q02] <;> rfl) | (simp [*, q03, q02] <;> rfl), by repeat (first | (with_reducible first | exact HB.out | apply bA | apply bN | apply bD | refine bS ?_ GE238.out | refine bS ?_ GE239.out) | exact HB.out)⟩
end Go.Proofs.YthjnallbbhnndaaDoor.XDb
namespace Go.Proofs.YthjnallbbhnndaaDoor.XDb
open Go.Proofs.YthjnallbbhnndaaDoor.Short Go.RowKit Go.Proofs.YthjnallbbhnndaaDoorW.PrintWords Go.Proofs.YthjnallbbhnndaaDoorW.PrintLast Go.Proofs.YthjnallbbhnndaaDoorW.PrintMore
attribute [local go_sem] q17 q15 q1j q1i q0w q0v q16 q14   -- for this text's walks alone
set_option linter.unusedVariables false
set_option linter.unusedSimpArgs false
mutual
def clerestoryref1_SameDoc.j0 : Nat → Bool → List (S43) → Bool → List (S43) → Bool → Option (Bool)
 | 0, _, _, _, _, _ => none
 | k + 1, x19, x243000, x243001, x244000, x244001 => if x19 = true then (some false) else (clerestoryref1_SameDoc.l0 k 0 x243000 x243001 x244000 x244001)
def clerestoryref1_SameDoc.l0 : Nat → Int → List (S43) → Bool → List (S43) → Bool → Option (Bool)
 | 0, _, _, _, _, _ => none
 | k + 1, x5, x243000, x243001, x244000, x244001 => if x5 < (x243000.length : Int) then (if 0 ≤ x5 then (if x5 < (x244000.length : Int) then ((clerestoryref1_SameNode.f k ((q00 x243000 x5).f0) ((q00 x243000 x5).f1) ((q00 x243000 x5).f2) ((q00 x243000 x5).f3) ((q00 x243000 x5).f4) ((q00 x243000 x5).f5) ((q00 x244000 x5).f0) ((q00 x244000 x5).f1) ((q00 x244000 x5).f2) ((q00 x244000 x5).f3) ((q00 x244000 x5).f4) ((q00 x244000 x5).f5)).bind fun t246 => (if t246 = true then (clerestoryref1_SameDoc.l0 k (wrap64 (x5 + 1)) x243000 x243001 x244000 x244001) else (some false))) else (none)) else (none)) else (some true)
end
def clerestoryref1_SameDoc.f (k : Nat) (l0_0 : List (S43)) (a0_1 : Bool) (l1_0 : List (S43)) (a1_1 : Bool) : Option (Bool) := if (l0_0.length : Int) = (l1_0.length : Int) then (clerestoryref1_SameDoc.j0 k (a0_1 != a1_1) l0_0 a0_1 l1_0 a1_1) else (clerestoryref1_SameDoc.j0 k true l0_0 a0_1 l1_0 a1_1)
theorem clerestoryref1_SameDoc.mono_l : ∀ k, (∀ y0 y1 y2 y3 y4, LeO (clerestoryref1_SameDoc.j0 k y0 y1 y2 y3 y4) (clerestoryref1_SameDoc.j0 (k + 1) y0 y1 y2 y3 y4)) ∧ (∀ y0 y1 y2 y3 y4, LeO (clerestoryref1_SameDoc.l0 k y0 y1 y2 y3 y4) (clerestoryref1_SameDoc.l0 (k + 1) y0 y1 y2 y3 y4))
 | 0 => ⟨fun _ _ _ _ _ r h => by simp [clerestoryref1_SameDoc.j0] at h, fun _ _ _ _ _ r h => by simp [clerestoryref1_SameDoc.l0] at h⟩
 | k + 1 => by
  obtain ⟨ih0, ih1⟩ := clerestoryref1_SameDoc.mono_l k
  refine ⟨?_, ?_⟩
  all_goals intros
  all_goals (first | unfold clerestoryref1_SameDoc.j0 | unfold clerestoryref1_SameDoc.l0)
  all_goals (repeat' first | with_reducible first | apply ih0 | apply ih1 | apply clerestoryref1_SameNode.mono | exact LeO.refl _ | exact LeO.none _ | refine LeO.ite ?_ ?_ | refine LeO.bind ?_ (fun _ => ?_) | (first | apply ih0 | apply ih1 | apply clerestoryref1_SameNode.mono | exact LeO.none _ | refine LeO.ite ?_ ?_ | refine LeO.bind ?_ (fun _ => ?_)))
theorem clerestoryref1_SameDoc.mono : ∀ a0 a1 a2 a3 k, LeO (clerestoryref1_SameDoc.f k a0 a1 a2 a3) (clerestoryref1_SameDoc.f (k + 1) a0 a1 a2 a3) := by
 intro a0 a1 a2 a3 k
 obtain ⟨ih0, ih1⟩ := clerestoryref1_SameDoc.mono_l k
 unfold clerestoryref1_SameDoc.f
 repeat' first | with_reducible first | apply ih0 | apply ih1 | apply clerestoryref1_SameNode.mono | exact LeO.refl _ | exact LeO.none _ | refine LeO.ite ?_ ?_ | refine LeO.bind ?_ (fun _ => ?_) | (first | apply ih0 | apply ih1 | apply clerestoryref1_SameNode.mono | exact LeO.none _ | refine LeO.ite ?_ ?_ | refine LeO.bind ?_ (fun _ => ?_))
def clerestoryref1_SameDoc.T6 : Bool × List (List Nat × List Nat) := (true, [([], []), ([0], [0]), ([], []), ([1, 2], [1, 2]), ([3], [3]), ([], []), ([5], [5]), ([], []), ([6, 7], [6, 7]), ([8], [8]), ([4, 9], [4, 9]), ([10], [10])])
def clerestoryref1_SameDoc.B6 : List Nat := [0, 1, 0, 7, 15, 0, 32, 0, 224, 480, 1023, 2047]
theorem clerestoryref1_SameDoc.tab6 : rtab .any (opsOf Tryd.f53 6) = clerestoryref1_SameDoc.T6 := by kernel_rfl
theorem clerestoryref1_SameDoc.bits6 : waitsOk clerestoryref1_SameDoc.T6.2 clerestoryref1_SameDoc.B6 = true := by kernel_rfl
set_option maxHeartbeats 8000000 in
set_option maxRecDepth 100000 in
theorem clerestoryref1_SameDoc.calls (k : Nat) (A0_0 : Option Addr) (c0_0 : Nat) (l0_0 : List (S43)) (a0_1 : Bool) (A1_0 : Option Addr) (c1_0 : Nat) (l1_0 : List (S43)) (a1_1 : Bool) (r : Bool) (w : World) (hr0_0 : Kd.C k43 w A0_0 l0_0.length l0_0) (hc0_0 : l0_0.length ≤ c0_0) (hr1_0 : Kd.C k43 w A1_0 l1_0.length l1_0) (hc1_0 : l1_0.length ≤ c1_0) (h : clerestoryref1_SameDoc.f k l0_0 a0_1 l1_0 a1_1 = some r) :
 Calls Tryd.prog 53 #[.agg #[.slice A0_0 l0_0.length c0_0, .bool a0_1], .agg #[.slice A1_0 l1_0.length c1_0, .bool a1_1]] w fun e w' => e = .returned (.bool r) ∧ Below w.heap.size w w' := by
 have hu24 := Tryd.underlying24
 have hu43 := Tryd.underlying43
 have HR0_0 := aS hr0_0
 have HC0_0 := aS hc0_0
 clear hr0_0 hc0_0
 have HR1_0 := aS hr1_0
 have HC1_0 := aS hc1_0
 clear hr1_0 hc1_0
 have HB := aS (Below.refl w.heap.size w)
 have H : (if (l0_0.length : Int) = (l1_0.length : Int) then (clerestoryref1_SameDoc.j0 k (a0_1 != a1_1) l0_0 a0_1 l1_0 a1_1) else (clerestoryref1_SameDoc.j0 k true l0_0 a0_1 l1_0 a1_1)) = some r := h
 clear h
 have HC3 := aS H
 clear H
 go_enter Tryd.func53, Tryd.ntmps53
 go_upto_region 1 with (first | ((with_reducible refine q06 (N := 2) rfl ?_); refine q0i ?hg (N := 2) ?hd (cs := #[.slice A0_0 l0_0.length c0_0, .bool a0_1]) (t := 24) ?hr ?_; (case hd => rfl); (case hg => rfl); (case hr => first | (go_simp; done) | (go_simp; rfl)); intro gb242 hg w4 hbox hb; have n0_ := aS (q01 (by repeat (first | (with_reducible first | exact HB.out | apply bA | apply bN | apply bD) | exact HB.out)) hb); have n1_ := aS (hbox); have n2_ := aS ((by rw [hg]; exact (q07 (by repeat (first | (with_reducible first | exact HB.out | apply bA | apply bN | apply bD) | exact HB.out))) : w.heap.size ≤ gb242)); have n3_ := aS ((by rw [hg]; exact (q07 (by repeat (first | (with_reducible first | exact HB.out | apply bA | apply bN | apply bD) | exact HB.out))) : w.heap.size ≤ gb242)); clear HB; have HB := n0_; have BK242 := n1_; have GW242 := n2_; have GE242 := n3_; clear n0_ n1_ n2_ n3_; clear hb hbox hg) | ((with_reducible refine q06 (N := 3) rfl ?_); refine q0i ?hg (N := 3) ?hd (cs := #[.slice A1_0 l1_0.length c1_0, .bool a1_1]) (t := 24) ?hr ?_; (case hd => rfl); (case hg => rfl); (case hr => first | (go_simp; done) | (go_simp; rfl)); intro gb243 hg w5 hbox hb; have n0_ := aS (q04 (g := gb242) (o := .cells #[.slice A0_0 l0_0.length c0_0, .bool a0_1] 24 (0, 0)) (by (with_reducible repeat (first | refine kN ?_ _ | refine kD ?_ | refine kA ?_ _)); exact BK242.out) hb); have n1_ := aS (q01 (by repeat (first | (with_reducible first | exact HB.out | apply bA | apply bN | apply bD | refine bS ?_ GE242.out) | exact HB.out)) hb); have n2_ := aS (hbox); have n3_ := aS ((by rw [hg]; exact (q07 (by repeat (first | (with_reducible first | exact HB.out | apply bA | apply bN | apply bD | refine bS ?_ GE242.out) | exact HB.out))) : w.heap.size ≤ gb243)); have n4_ := aS ((by rw [hg]; exact (q07 (by repeat (first | (with_reducible first | exact HB.out | apply bA | apply bN | apply bD | refine bS ?_ GE242.out) | exact HB.out))) : w.heap.size ≤ gb243)); have n5_ := aS ((by rw [hg]; exact Nat.ne_of_lt (q0c (g := gb242) (o := .cells #[.slice A0_0 l0_0.length c0_0, .bool a0_1] 24 (0, 0)) (by (with_reducible repeat (first | refine kN ?_ _ | refine kD ?_ | refine kA ?_ _)); exact BK242.out)) : gb242 ≠ gb243)); have n6_ := aS ((by rw [hg]; exact Nat.ne_of_gt (q0c (g := gb242) (o := .cells #[.slice A0_0 l0_0.length c0_0, .bool a0_1] 24 (0, 0)) (by (with_reducible repeat (first | refine kN ?_ _ | refine kD ?_ | refine kA ?_ _)); exact BK242.out)) : gb243 ≠ gb242)); clear BK242; clear HB; have BK242 := n0_; have HB := n1_; have BK243 := n2_; have GW243 := n3_; have GE243 := n4_; have NB242_243 := n5_; have NB243_242 := n6_; clear n0_ n1_ n2_ n3_ n4_ n5_ n6_; clear hb hbox hg))
 (try simp only [Act.put, s1, s2, s3])
 go_cut [19] (fun v19 wc => ∃ (kq : Nat) (x19_2 : Bool), v19 = .bool x19_2 ∧ Aside0 (clerestoryref1_SameDoc.j0 kq x19_2 l0_0 a0_1 l1_0 a1_1 = some r) ∧ Aside0 (kq ≤ k) ∧ Aside0 (wc.heap[gb242]? = some (.cells #[(.slice A0_0 l0_0.length c0_0), .bool a0_1] 24 (0, 0))) ∧ Aside0 (wc.heap[gb243]? = some (.cells #[(.slice A1_0 l1_0.length c1_0), .bool a1_1] 24 (0, 0))) ∧ Aside0 (Below w.heap.size w wc))
 case first =>
  have H := HC3.out
  clear HC3
  by_cases c6 : (l0_0.length : Int) = (l1_0.length : Int)
  ·rw [if_pos c6] at H
   have c6b0 : ((l0_0.length : Int) == (l1_0.length : Int)) = true := beq_iff_eq.mpr c6
   have c6b1 : ((l0_0.length : Int) != (l1_0.length : Int)) = false := bne_eq_false_iff_eq.mpr c6
   have c6b2 : (l0_0.length == l1_0.length) = true := by first | simpa using c6 | (simp at c6 ⊢; omega)
   clear c6
   (first | rw [c6b0] | (simp only [q0d, q0e]; rw [c6b0]) | skip)
   have H' := aS H
   clear H
   have hnb7 := NB242_243.out
   have hnc7 := NB243_242.out
   have hcz8_0 : w5.cell? ⟨gb242, 0, none⟩ = some (.slice A0_0 l0_0.length c0_0) := (q05 BK242.out 0).trans rfl
   have hcz8_1 : w5.cell? ⟨gb242, 1, none⟩ = some (.bool a0_1) := (q05 BK242.out 1).trans rfl
   have hfz8_0 := q0b BK242.out 0
   have hfz8_1 := q0b BK242.out 1
   have hcz9_0 : w5.cell? ⟨gb243, 0, none⟩ = some (.slice A1_0 l1_0.length c1_0) := (q05 BK243.out 0).trans rfl
   have hcz9_1 : w5.cell? ⟨gb243, 1, none⟩ = some (.bool a1_1) := (q05 BK243.out 1).trans rfl
   have hfz9_0 := q0b BK243.out 0
   have hfz9_1 := q0b BK243.out 1
   go_wp2
   go_meet
   case rel => exact ⟨_, ((a0_1 != a1_1)), (by first | rfl | (simp; done) | simp [*]), H', ⟨by first | omega | exact Nat.le_refl _⟩, ⟨by (with_reducible repeat (first | refine kN ?_ _ | refine kD ?_ | refine kA ?_ _)); exact BK242.out⟩, ⟨by (with_reducible repeat (first | refine kN ?_ _ | refine kD ?_ | refine kA ?_ _)); exact BK243.out⟩, ⟨by repeat (first | (with_reducible first | exact HB.out | apply bA | apply bN | apply bD | refine bS ?_ GE242.out | refine bS ?_ GE243.out) | exact HB.out)⟩⟩
  ·rw [if_neg c6] at H
   have c6b0 : ((l0_0.length : Int) == (l1_0.length : Int)) = false := beq_eq_false_iff_ne.mpr c6
   have c6b1 : ((l0_0.length : Int) != (l1_0.length : Int)) = true := bne_iff_ne.mpr c6
   have c6b2 : (l0_0.length == l1_0.length) = false := by first | simpa using c6 | (simp at c6 ⊢; omega)
   (first | rw [c6b0] | (simp only [q0d, q0e]; rw [c6b0]) | skip)
   have H' := aS H
   clear H
   have hnb10 := NB242_243.out
   have hnc10 := NB243_242.out
   have hcz11_0 : w5.cell? ⟨gb242, 0, none⟩ = some (.slice A0_0 l0_0.length c0_0) := (q05 BK242.out 0).trans rfl
   have hcz11_1 : w5.cell? ⟨gb242, 1, none⟩ = some (.bool a0_1) := (q05 BK242.out 1).trans rfl
   have hfz11_0 := q0b BK242.out 0
   have hfz11_1 := q0b BK242.out 1
   have hcz12_0 : w5.cell? ⟨gb243, 0, none⟩ = some (.slice A1_0 l1_0.length c1_0) := (q05 BK243.out 0).trans rfl
   have hcz12_1 : w5.cell? ⟨gb243, 1, none⟩ = some (.bool a1_1) := (q05 BK243.out 1).trans rfl
   have hfz12_0 := q0b BK243.out 0
   have hfz12_1 := q0b BK243.out 1
   go_wp2
   go_meet
   case rel => exact ⟨_, (true), (by first | rfl | (simp; done) | simp [*]), H', ⟨by first | omega | exact Nat.le_refl _⟩, ⟨by (with_reducible repeat (first | refine kN ?_ _ | refine kD ?_ | refine kA ?_ _)); exact BK242.out⟩, ⟨by (with_reducible repeat (first | refine kN ?_ _ | refine kD ?_ | refine kA ?_ _)); exact BK243.out⟩, ⟨by repeat (first | (with_reducible first | exact HB.out | apply bA | apply bN | apply bD | refine bS ?_ GE242.out | refine bS ?_ GE243.out) | exact HB.out)⟩⟩
 case rest =>
  clear HC3
  try clear c1
  try clear p2
  try clear c5
  try clear c6
  try clear c6b0
  try clear c6b1
  try clear c6b2
  try clear c7
  try clear c10
  try clear hcz11_0
  try clear hcz11_1
  try clear hcz12_0
  try clear hcz12_1
  try clear hcz8_0
  try clear hcz8_1
  try clear hcz9_0
  try clear hcz9_1
  try clear hfz11_0
  try clear hfz11_1
  try clear hfz12_0
  try clear hfz12_1
  try clear hfz8_0
  try clear hfz8_1
  try clear hfz9_0
  try clear hfz9_1
  obtain ⟨kq, x19_2, rfl, HA, HJ2, BK242, BK243, HB⟩ := hcut
  cases kq with
  | zero => exact absurd HA.out (by simp [clerestoryref1_SameDoc.j0])
  | succ kj2 =>
   have H := HA.out
   clear HA
   simp only [clerestoryref1_SameDoc.j0] at H
   by_cases c13 : x19_2 = true
   ·subst c13
    have H1 : (some false) = some r := by rw [if_pos rfl] at H; exact H
    clear H
    have H := H1
    clear H1
    obtain rfl := Option.some.inj H
    go_wp2
    go_ret
    exact ⟨by first | rfl | (simp [q03, q02] <;> rfl) | (simp [*, q03, q02] <;> rfl), by repeat (first | (with_reducible first | exact HB.out | apply bA | apply bN | apply bD | refine bS ?_ GE242.out | refine bS ?_ GE243.out) | exact HB.out)⟩
   ·replace c13 := Bool.eq_false_iff.mpr c13
    subst c13
    have H1 : (clerestoryref1_SameDoc.l0 kj2 0 l0_0 a0_1 l1_0 a1_1) = some r := by rw [if_neg (show ¬ (false = true) by decide)] at H; exact H
    clear H
    have H := H1
    clear H1
    have H' := aS H
    clear H
    go_wp2
    go_loopg [5] kj2 (fun kq v5 w' => ∃ (x5_2 : Int), v5 = .int .i64 x5_2 ∧ Aside0 (clerestoryref1_SameDoc.l0 kq x5_2 l0_0 a0_1 l1_0 a1_1 = some r) ∧ Aside0 (kq ≤ kj2) ∧ Aside0 (w'.heap[gb242]? = some (.cells #[(.slice A0_0 l0_0.length c0_0), .bool a0_1] 24 (0, 0))) ∧ Aside0 (w'.heap[gb243]? = some (.cells #[(.slice A1_0 l1_0.length c1_0), .bool a1_1] 24 (0, 0))) ∧ Aside0 (Below w.heap.size w w'))
    case atStart => exact ⟨(0), (by first | rfl | (simp; done) | simp [*]), H', ⟨Nat.le_refl _⟩, ⟨by (with_reducible repeat (first | refine kN ?_ _ | refine kD ?_ | refine kA ?_ _)); exact BK242.out⟩, ⟨by (with_reducible repeat (first | refine kN ?_ _ | refine kD ?_ | refine kA ?_ _)); exact BK243.out⟩, ⟨by repeat (first | (with_reducible first | exact HB.out | apply bA | apply bN | apply bD | refine bS ?_ GE242.out | refine bS ?_ GE243.out) | exact HB.out)⟩⟩
    case round =>
     clear H'
     try clear c1
     try clear p2
     try clear c5
     try clear c6
     try clear c6b0
     try clear c6b1
     try clear c6b2
     try clear c7
     try clear c10
     try clear c13
     try clear hcz11_0
     try clear hcz11_1
     try clear hcz12_0
     try clear hcz12_1
     try clear hcz8_0
     try clear hcz8_1
     try clear hcz9_0
     try clear hcz9_1
     try clear hfz11_0
     try clear hfz11_1
     try clear hfz12_0
     try clear hfz12_1
     try clear hfz8_0
     try clear hfz8_1
     try clear hfz9_0
     try clear hfz9_1
     try clear p2
     obtain ⟨x5_2, rfl, HA, HK2, BK242, BK243, HB⟩ := hrel
     cases gk with
     | zero => exact absurd HA.out (by simp [clerestoryref1_SameDoc.l0])
     | succ k2 =>
      have H := HA.out
      clear HA
      simp only [clerestoryref1_SameDoc.l0] at H
      by_cases c14 : x5_2 < (l0_0.length : Int)
      ·rw [if_pos c14] at H
       have c14b0 : decide (x5_2 < (l0_0.length : Int)) = true := decide_eq_true c14
       clear c14
       by_cases c15 : 0 ≤ x5_2
       ·rw [if_pos c15] at H
        have c15b0 : decide (0 ≤ x5_2) = true := decide_eq_true c15
        clear c15
        by_cases c16 : x5_2 < (l1_0.length : Int)
        ·rw [if_pos c16] at H
         have c16b0 : decide (x5_2 < (l1_0.length : Int)) = true := decide_eq_true c16
         clear c16
         replace H := Option.bind_eq_some_iff.mp H
         obtain ⟨t246, A170, H⟩ := H
         replace H : (if t246 = true then (clerestoryref1_SameDoc.l0 k2 (wrap64 (x5_2 + 1)) l0_0 a0_1 l1_0 a1_1) else (some false)) = some r := H
         have A17 := aS A170
         clear A170
         by_cases c18 : t246 = true
         ·subst c18
          have H1 : (clerestoryref1_SameDoc.l0 k2 (wrap64 (x5_2 + 1)) l0_0 a0_1 l1_0 a1_1) = some r := by rw [if_pos rfl] at H; exact H
          clear H
          have H := H1
          clear H1
          have H' := aS H
          clear H
          have hnb19 := NB242_243.out
          have hnc19 := NB243_242.out
          have hcz20_0 : wr.cell? ⟨gb242, 0, none⟩ = some (.slice A0_0 l0_0.length c0_0) := (q05 BK242.out 0).trans rfl
          have hcz20_1 : wr.cell? ⟨gb242, 1, none⟩ = some (.bool a0_1) := (q05 BK242.out 1).trans rfl
          have hfz20_0 := q0b BK242.out 0
          have hfz20_1 := q0b BK242.out 1
          try go_wp2
          have n0_ := aS (q18 BK242.out)
          have n1_ := aS (q18 BK243.out)
          have n2_ := aS (q1k HB.out)
          clear BK242
          clear BK243
          clear HB
          have BK242 := n0_
          have BK243 := n1_
          have HB := n2_
          clear n0_ n1_ n2_
          have p244 : 0 ≤ (x5_2 : Int) := od (by first | (with_reducible assumption) | assumption)
          have q244 : x5_2 < (l0_0.length : Int) := od (by first | (with_reducible assumption) | assumption)
          obtain ⟨ad244, A244_2, c244_2, A244_5, c244_5, e244, hx244_0, hx244_1, hx244_2, hx244_3, hx244_4, hx244_5, hl244_2, hi244_2, hl244_5, hi244_5⟩ := at_T43 HR0_0.out x5_2 p244 q244
          have hw244_5 := hx244_5
          have hw244_4 := hx244_4
          have hw244_3 := hx244_3
          have hw244_2 := hx244_2
          have hw244_1 := hx244_1
          have hw244_0 := hx244_0
          cases e244
          replace hx244_0 := (HB.out.cell (World.block_lt_of_cell? w _ hx244_0)).trans hx244_0
          replace hx244_1 := (HB.out.cell (World.block_lt_of_cell? w _ hx244_1)).trans hx244_1
          replace hx244_2 := (HB.out.cell (World.block_lt_of_cell? w _ hx244_2)).trans hx244_2
          replace hx244_3 := (HB.out.cell (World.block_lt_of_cell? w _ hx244_3)).trans hx244_3
          replace hx244_4 := (HB.out.cell (World.block_lt_of_cell? w _ hx244_4)).trans hx244_4
          replace hx244_5 := (HB.out.cell (World.block_lt_of_cell? w _ hx244_5)).trans hx244_5
          have HR244_2 := aS hi244_2
          have HC244_2 := aS hl244_2
          clear hi244_2 hl244_2
          have HR244_5 := aS hi244_5
          have HC244_5 := aS hl244_5
          clear hi244_5 hl244_5
          replace p244 := eq_true p244
          replace q244 := eq_true q244
          have p245 : 0 ≤ (x5_2 : Int) := od (by first | (with_reducible assumption) | assumption)
          have q245 : x5_2 < (l1_0.length : Int) := od (by first | (with_reducible assumption) | assumption)
          obtain ⟨ad245, A245_2, c245_2, A245_5, c245_5, e245, hx245_0, hx245_1, hx245_2, hx245_3, hx245_4, hx245_5, hl245_2, hi245_2, hl245_5, hi245_5⟩ := at_T43 HR1_0.out x5_2 p245 q245
          have hw245_5 := hx245_5
          have hw245_4 := hx245_4
          have hw245_3 := hx245_3
          have hw245_2 := hx245_2
          have hw245_1 := hx245_1
          have hw245_0 := hx245_0
          cases e245
          replace hx245_0 := (HB.out.cell (World.block_lt_of_cell? w _ hx245_0)).trans hx245_0
          replace hx245_1 := (HB.out.cell (World.block_lt_of_cell? w _ hx245_1)).trans hx245_1
          replace hx245_2 := (HB.out.cell (World.block_lt_of_cell? w _ hx245_2)).trans hx245_2
          replace hx245_3 := (HB.out.cell (World.block_lt_of_cell? w _ hx245_3)).trans hx245_3
          replace hx245_4 := (HB.out.cell (World.block_lt_of_cell? w _ hx245_4)).trans hx245_4
          replace hx245_5 := (HB.out.cell (World.block_lt_of_cell? w _ hx245_5)).trans hx245_5
          have HR245_2 := aS hi245_2
          have HC245_2 := aS hl245_2
          clear hi245_2 hl245_2
          have HR245_5 := aS hi245_5
          have HC245_5 := aS hl245_5
          clear hi245_5 hl245_5
          replace p245 := eq_true p245
          replace q245 := eq_true q245
          refine start_ (n := 12) (S := fun w' => w'.cell? ⟨gb242, 0, none⟩ = some (.slice (some ad244) l0_0.length c0_0) ∧ w'.cell? ⟨gb242, 1, none⟩ = some (.bool a0_1) ∧ w'.cell? ⟨gb243, 0, none⟩ = some (.slice (some ad245) l1_0.length c1_0) ∧ w'.cell? ⟨gb243, 1, none⟩ = some (.bool a1_1) ∧ w'.cell? (ad244.add ((x5_2).toNat * 6)) = some (.int .i64 ((q00 l0_0 x5_2).f0)) ∧ w'.cell? ⟨(ad244.add ((x5_2).toNat * 6)).block, (ad244.add ((x5_2).toNat * 6)).off + 1, none⟩ = some (.string ((q00 l0_0 x5_2).f1)) ∧ w'.cell? ⟨(ad244.add ((x5_2).toNat * 6)).block, (ad244.add ((x5_2).toNat * 6)).off + 2, none⟩ = some (.slice A244_2 ((q00 l0_0 x5_2).f2).length c244_2) ∧ w'.cell? ⟨(ad244.add ((x5_2).toNat * 6)).block, (ad244.add ((x5_2).toNat * 6)).off + 3, none⟩ = some (.string ((q00 l0_0 x5_2).f3)) ∧ w'.cell? ⟨(ad244.add ((x5_2).toNat * 6)).block, (ad244.add ((x5_2).toNat * 6)).off + 4, none⟩ = some (.int .i64 ((q00 l0_0 x5_2).f4)) ∧ w'.cell? ⟨(ad244.add ((x5_2).toNat * 6)).block, (ad244.add ((x5_2).toNat * 6)).off + 5, none⟩ = some (.slice A244_5 ((q00 l0_0 x5_2).f5).length c244_5) ∧ w'.cell? (ad245.add ((x5_2).toNat * 6)) = some (.int .i64 ((q00 l1_0 x5_2).f0)) ∧ w'.cell? ⟨(ad245.add ((x5_2).toNat * 6)).block, (ad245.add ((x5_2).toNat * 6)).off + 1, none⟩ = some (.string ((q00 l1_0 x5_2).f1)) ∧ w'.cell? ⟨(ad245.add ((x5_2).toNat * 6)).block, (ad245.add ((x5_2).toNat * 6)).off + 2, none⟩ = some (.slice A245_2 ((q00 l1_0 x5_2).f2).length c245_2) ∧ w'.cell? ⟨(ad245.add ((x5_2).toNat * 6)).block, (ad245.add ((x5_2).toNat * 6)).off + 3, none⟩ = some (.string ((q00 l1_0 x5_2).f3)) ∧ w'.cell? ⟨(ad245.add ((x5_2).toNat * 6)).block, (ad245.add ((x5_2).toNat * 6)).off + 4, none⟩ = some (.int .i64 ((q00 l1_0 x5_2).f4)) ∧ w'.cell? ⟨(ad245.add ((x5_2).toNat * 6)).block, (ad245.add ((x5_2).toNat * 6)).off + 5, none⟩ = some (.slice A245_5 ((q00 l1_0 x5_2).f5).length c245_5)) (ds := []) #[false, false, false, false, false, false, false, false, false, false, false, false] (by kernel_rfl) rfl rfl ⟨(q05 BK242.out 0).trans rfl, (q05 BK242.out 1).trans rfl, (q05 BK243.out 0).trans rfl, (q05 BK243.out 1).trans rfl, ((HB.out.cell (World.block_lt_of_cell? w _ hw244_0)).trans hw244_0), ((HB.out.cell (World.block_lt_of_cell? w _ hw244_1)).trans hw244_1), ((HB.out.cell (World.block_lt_of_cell? w _ hw244_2)).trans hw244_2), ((HB.out.cell (World.block_lt_of_cell? w _ hw244_3)).trans hw244_3), ((HB.out.cell (World.block_lt_of_cell? w _ hw244_4)).trans hw244_4), ((HB.out.cell (World.block_lt_of_cell? w _ hw244_5)).trans hw244_5), ((HB.out.cell (World.block_lt_of_cell? w _ hw245_0)).trans hw245_0), ((HB.out.cell (World.block_lt_of_cell? w _ hw245_1)).trans hw245_1), ((HB.out.cell (World.block_lt_of_cell? w _ hw245_2)).trans hw245_2), ((HB.out.cell (World.block_lt_of_cell? w _ hw245_3)).trans hw245_3), ((HB.out.cell (World.block_lt_of_cell? w _ hw245_4)).trans hw245_4), ((HB.out.cell (World.block_lt_of_cell? w _ hw245_5)).trans hw245_5)⟩ (fun hHeld => ?_); refine with_tabW clerestoryref1_SameDoc.tab6 clerestoryref1_SameDoc.bits6 (fun HT_ HW_ => ?_)
          generalize wr.drew = w21 at BK242 BK243 HB HR244_2 HR244_5 HR245_2 HR245_5 hx244_0 hx244_1 hx244_2 hx244_3 hx244_4 hx244_5 hx245_0 hx245_1 hx245_2 hx245_3 hx245_4 hx245_5 hHeld ⊢
          refine q0m (i := 0) (N := some 27) (v := ?_) (a' := ?_) #[true, false, false, false, false, false, false, false, false, false, false, false] rfl rfl (q0r HT_.out (by kernel_rfl)) (fun _ _ _ h => h) (Or.inl ⟨by rfl, ?_⟩) ?_ ?_
          rotate_left
          ·intro w'
           go_simp
           with_reducible rfl
          rotate_left
          ·simp only [Act.put, s1, s2, s3, q0d, q0e]
           rfl
          refine q0m (i := 2) (N := some 29) (v := ?_) (a' := ?_) #[true, false, true, false, false, false, false, false, false, false, false, false] rfl rfl (q0r HT_.out (by kernel_rfl)) (fun _ _ _ h => h) (Or.inl ⟨by rfl, ?_⟩) ?_ ?_
          rotate_left
          ·intro w'
           go_simp
           with_reducible rfl
          rotate_left
          ·simp only [Act.put, s1, s2, s3, q0d, q0e]
           rfl
          refine q0m (i := 5) (N := some 32) (v := ?_) (a' := ?_) #[true, false, true, false, false, true, false, false, false, false, false, false] rfl rfl (q0r HT_.out (by kernel_rfl)) (fun _ _ _ h => h) (Or.inl ⟨by rfl, ?_⟩) ?_ ?_
          rotate_left
          ·intro w'
           go_simp
           with_reducible rfl
          rotate_left
          ·simp only [Act.put, s1, s2, s3, q0d, q0e]
           rfl
          refine q0m (i := 7) (N := some 34) (v := ?_) (a' := ?_) #[true, false, true, false, false, true, false, true, false, false, false, false] rfl rfl (q0r HT_.out (by kernel_rfl)) (fun _ _ _ h => h) (Or.inl ⟨by rfl, ?_⟩) ?_ ?_
          rotate_left
          ·intro w'
           go_simp
           with_reducible rfl
          rotate_left
          ·simp only [Act.put, s1, s2, s3, q0d, q0e]
           rfl
          refine take_ (i := 1) (N := some 28) (v := ?_) (a' := ?_) #[true, true, true, false, false, true, false, true, false, false, false, false] rfl rfl (q1p HT_.out HW_.out (by kernel_rfl)) (fun _ _ _ h => h) (Or.inl ⟨by rfl, ?_⟩) hHeld ?_ ?_
          rotate_left
          ·rintro w' ⟨s0, s1, s2, s3, s4, s5, s6, s7, s8, s9, s10, s11, s12, s13, s14, s15⟩
           go_simp
           with_reducible rfl
          rotate_left
          ·simp only [Act.put, s1, s2, s3, q0d, q0e]
           rfl
          refine q0m (i := 3) (N := some 30) (v := ?_) (a' := ?_) #[true, true, true, true, false, true, false, true, false, false, false, false] rfl rfl (q0r HT_.out (by kernel_rfl)) (fun _ _ _ h => h) (Or.inl ⟨by rfl, ?_⟩) ?_ ?_
          rotate_left
          ·intro w'
           go_simp
           with_reducible rfl
          rotate_left
          ·simp only [Act.put, s1, s2, s3, q0d, q0e]
           rfl
          refine take_ (i := 4) (N := some 31) (v := ?_) (a' := ?_) #[true, true, true, true, true, true, false, true, false, false, false, false] rfl rfl (q1p HT_.out HW_.out (by kernel_rfl)) (fun _ _ _ h => h) (Or.inl ⟨by rfl, ?_⟩) hHeld ?_ ?_
          rotate_left
          ·rintro w' ⟨s0, s1, s2, s3, s4, s5, s6, s7, s8, s9, s10, s11, s12, s13, s14, s15⟩
           go_simp
           with_reducible rfl
          rotate_left
          ·simp only [Act.put, s1, s2, s3, q0d, q0e]
           rfl
          refine take_ (i := 6) (N := some 33) (v := ?_) (a' := ?_) #[true, true, true, true, true, true, true, true, false, false, false, false] rfl rfl (q1p HT_.out HW_.out (by kernel_rfl)) (fun _ _ _ h => h) (Or.inl ⟨by rfl, ?_⟩) hHeld ?_ ?_
          rotate_left
          ·rintro w' ⟨s0, s1, s2, s3, s4, s5, s6, s7, s8, s9, s10, s11, s12, s13, s14, s15⟩
           go_simp
           with_reducible rfl
          rotate_left
          ·simp only [Act.put, s1, s2, s3, q0d, q0e]
           rfl
          refine q0m (i := 8) (N := some 35) (v := ?_) (a' := ?_) #[true, true, true, true, true, true, true, true, true, false, false, false] rfl rfl (q0r HT_.out (by kernel_rfl)) (fun _ _ _ h => h) (Or.inl ⟨by rfl, ?_⟩) ?_ ?_
          rotate_left
          ·intro w'
           go_simp
           with_reducible rfl
          rotate_left
          ·simp only [Act.put, s1, s2, s3, q0d, q0e]
           rfl
          refine take_ (i := 9) (N := some 36) (v := ?_) (a' := ?_) #[true, true, true, true, true, true, true, true, true, true, false, false] rfl rfl (q1p HT_.out HW_.out (by kernel_rfl)) (fun _ _ _ h => h) (Or.inl ⟨by rfl, ?_⟩) hHeld ?_ ?_
          rotate_left
          ·rintro w' ⟨s0, s1, s2, s3, s4, s5, s6, s7, s8, s9, s10, s11, s12, s13, s14, s15⟩
           go_simp
           with_reducible rfl
          rotate_left
          ·simp only [Act.put, s1, s2, s3, q0d, q0e]
           rfl
          refine one_ (i := 10) (N := some 37) #[true, true, true, true, true, true, true, true, true, true, true, false] rfl rfl (one_of HT_.out (by kernel_rfl)) (by decide) (fun K hK => ?_)
          refine goes_ Tryd.func103 (by kernel_rfl) rfl #[.agg #[.int .i64 ((q00 l0_0 x5_2).f0), .string ((q00 l0_0 x5_2).f1), .slice A244_2 ((q00 l0_0 x5_2).f2).length c244_2, .string ((q00 l0_0 x5_2).f3), .int .i64 ((q00 l0_0 x5_2).f4), .slice A244_5 ((q00 l0_0 x5_2).f5).length c244_5], .agg #[.int .i64 ((q00 l1_0 x5_2).f0), .string ((q00 l1_0 x5_2).f1), .slice A245_2 ((q00 l1_0 x5_2).f2).length c245_2, .string ((q00 l1_0 x5_2).f3), .int .i64 ((q00 l1_0 x5_2).f4), .slice A245_5 ((q00 l1_0 x5_2).f5).length c245_5]] (by rfl) rfl rfl (by (try simp only [List.map_toArray, List.map_cons, List.map_nil]); first | done | rfl | (simp only [List.length_drop, List.length_take]; rfl)) ?_
          with_reducible refine (clerestoryref1_SameNode.calls k2 ((q00 l0_0 x5_2).f0) ((q00 l0_0 x5_2).f1) _ _ ((q00 l0_0 x5_2).f2) ((q00 l0_0 x5_2).f3) ((q00 l0_0 x5_2).f4) _ _ ((q00 l0_0 x5_2).f5) ((q00 l1_0 x5_2).f0) ((q00 l1_0 x5_2).f1) _ _ ((q00 l1_0 x5_2).f2) ((q00 l1_0 x5_2).f3) ((q00 l1_0 x5_2).f4) _ _ ((q00 l1_0 x5_2).f5) true _ ?side1 ?side2 ?side3 ?side4 ?side5 ?side6 ?side7 ?side8 A17.out).mono ?_
          (case side1 => repeat (first | exact (Kd.C_below HR244_2.out HB.out) | (with_reducible refine cA ?_ _) | (with_reducible refine cN ?_ _) | (with_reducible refine cD ?_)))
          (case side2 => exact HC244_2.out)
          (case side3 => repeat (first | exact (Kd.C_below HR244_5.out HB.out) | (with_reducible refine cA ?_ _) | (with_reducible refine cN ?_ _) | (with_reducible refine cD ?_)))
          (case side4 => exact HC244_5.out)
          (case side5 => repeat (first | exact (Kd.C_below HR245_2.out HB.out) | (with_reducible refine cA ?_ _) | (with_reducible refine cN ?_ _) | (with_reducible refine cD ?_)))
          (case side6 => exact HC245_2.out)
          (case side7 => repeat (first | exact (Kd.C_below HR245_5.out HB.out) | (with_reducible refine cA ?_ _) | (with_reducible refine cN ?_ _) | (with_reducible refine cD ?_)))
          (case side8 => exact HC245_5.out)
          rintro e w22 ⟨rfl, hb⟩
          refine ⟨_, rfl, ?_⟩
          have n0_ := aS (q04 (g := gb242) (o := .cells #[.slice (some ad244) l0_0.length c0_0, .bool a0_1] 24 (0, 0)) (by (with_reducible repeat (first | refine kN ?_ _ | refine kD ?_ | refine kA ?_ _)); exact BK242.out) hb)
          have n1_ := aS (q04 (g := gb243) (o := .cells #[.slice (some ad245) l1_0.length c1_0, .bool a1_1] 24 (0, 0)) (by (with_reducible repeat (first | refine kN ?_ _ | refine kD ?_ | refine kA ?_ _)); exact BK243.out) hb)
          have n2_ := aS (q01 (by repeat (first | (with_reducible first | exact HB.out | apply bA | apply bN | apply bD | refine bS ?_ GE242.out | refine bS ?_ GE243.out) | exact HB.out)) hb)
          clear BK242
          clear BK243
          clear HB
          have BK242 := n0_
          have BK243 := n1_
          have HB := n2_
          clear n0_ n1_ n2_
          (try clear hb)
          (try clear hb2)
          (try clear hk)
          (try clear hi)
          refine hK.out _ _ ⟨(q05 BK242.out 0).trans rfl, (q05 BK242.out 1).trans rfl, (q05 BK243.out 0).trans rfl, (q05 BK243.out 1).trans rfl, ((HB.out.cell (World.block_lt_of_cell? w _ hw244_0)).trans hw244_0), ((HB.out.cell (World.block_lt_of_cell? w _ hw244_1)).trans hw244_1), ((HB.out.cell (World.block_lt_of_cell? w _ hw244_2)).trans hw244_2), ((HB.out.cell (World.block_lt_of_cell? w _ hw244_3)).trans hw244_3), ((HB.out.cell (World.block_lt_of_cell? w _ hw244_4)).trans hw244_4), ((HB.out.cell (World.block_lt_of_cell? w _ hw244_5)).trans hw244_5), ((HB.out.cell (World.block_lt_of_cell? w _ hw245_0)).trans hw245_0), ((HB.out.cell (World.block_lt_of_cell? w _ hw245_1)).trans hw245_1), ((HB.out.cell (World.block_lt_of_cell? w _ hw245_2)).trans hw245_2), ((HB.out.cell (World.block_lt_of_cell? w _ hw245_3)).trans hw245_3), ((HB.out.cell (World.block_lt_of_cell? w _ hw245_4)).trans hw245_4), ((HB.out.cell (World.block_lt_of_cell? w _ hw245_5)).trans hw245_5)⟩ (fun hHeld => ?_)
          clear hK K
          refine norm_ (a' := ?_) ?_ ?_
          rotate_left
          ·show Act.put _ (some 37) _ = _
           simp only [Act.put, s1, s2, s3, q0d, q0e]
           rfl
          refine q0m (i := 11) (N := some 38) (v := ?_) (a' := ?_) #[true, true, true, true, true, true, true, true, true, true, true, true] rfl rfl (q0r HT_.out (by kernel_rfl)) (fun _ _ _ h => h) (Or.inl ⟨by rfl, ?_⟩) ?_ ?_
          rotate_left
          ·intro w'
           go_simp
           with_reducible rfl
          rotate_left
          ·simp only [Act.put, s1, s2, s3, q0d, q0e]
           rfl
          refine done_ (done_of HT_.out (by kernel_rfl)) ?_
          try go_wp2
          go_roundg k2
          case measure => have := HJ2.out; have := HK2.out; omega
          case rel => exact ⟨(wrap64 (x5_2 + 1)), (by first | rfl | (simp; done) | simp [*]), H', ⟨by have := HJ2.out; have := HK2.out; omega⟩, ⟨by (with_reducible repeat (first | refine kN ?_ _ | refine kD ?_ | refine kA ?_ _)); exact BK242.out⟩, ⟨by (with_reducible repeat (first | refine kN ?_ _ | refine kD ?_ | refine kA ?_ _)); exact BK243.out⟩, ⟨by repeat (first | (with_reducible first | exact HB.out | apply bA | apply bN | apply bD | refine bS ?_ GE242.out | refine bS ?_ GE243.out) | exact HB.out)⟩⟩
         ·replace c18 := Bool.eq_false_iff.mpr c18
          subst c18
          have H1 : (some false) = some r := by rw [if_neg (show ¬ (false = true) by decide)] at H; exact H
          clear H
          have H := H1
          clear H1
          obtain rfl := Option.some.inj H
          have hnb23 := NB242_243.out
          have hnc23 := NB243_242.out
          have hcz24_0 : wr.cell? ⟨gb242, 0, none⟩ = some (.slice A0_0 l0_0.length c0_0) := (q05 BK242.out 0).trans rfl
          have hcz24_1 : wr.cell? ⟨gb242, 1, none⟩ = some (.bool a0_1) := (q05 BK242.out 1).trans rfl
          have hfz24_0 := q0b BK242.out 0
          have hfz24_1 := q0b BK242.out 1
          try go_wp2
          have n0_ := aS (q18 BK242.out)
          have n1_ := aS (q18 BK243.out)
          have n2_ := aS (q1k HB.out)
          clear BK242
          clear BK243
          clear HB
          have BK242 := n0_
          have BK243 := n1_
          have HB := n2_
          clear n0_ n1_ n2_
          have p244 : 0 ≤ (x5_2 : Int) := od (by first | (with_reducible assumption) | assumption)
          have q244 : x5_2 < (l0_0.length : Int) := od (by first | (with_reducible assumption) | assumption)
          obtain ⟨ad244, A244_2, c244_2, A244_5, c244_5, e244, hx244_0, hx244_1, hx244_2, hx244_3, hx244_4, hx244_5, hl244_2, hi244_2, hl244_5, hi244_5⟩ := at_T43 HR0_0.out x5_2 p244 q244
          have hw244_5 := hx244_5
          have hw244_4 := hx244_4
          have hw244_3 := hx244_3
          have hw244_2 := hx244_2
          have hw244_1 := hx244_1
          have hw244_0 := hx244_0
          cases e244
          replace hx244_0 := (HB.out.cell (World.block_lt_of_cell? w _ hx244_0)).trans hx244_0
          replace hx244_1 := (HB.out.cell (World.block_lt_of_cell? w _ hx244_1)).trans hx244_1
          replace hx244_2 := (HB.out.cell (World.block_lt_of_cell? w _ hx244_2)).trans hx244_2
          replace hx244_3 := (HB.out.cell (World.block_lt_of_cell? w _ hx244_3)).trans hx244_3
          replace hx244_4 := (HB.out.cell (World.block_lt_of_cell? w _ hx244_4)).trans hx244_4
          replace hx244_5 := (HB.out.cell (World.block_lt_of_cell? w _ hx244_5)).trans hx244_5
          have HR244_2 := aS hi244_2
          have HC244_2 := aS hl244_2
          clear hi244_2 hl244_2
          have HR244_5 := aS hi244_5
          have HC244_5 := aS hl244_5
          clear hi244_5 hl244_5
          replace p244 := eq_true p244
          replace q244 := eq_true q244
          have p245 : 0 ≤ (x5_2 : Int) := od (by first | (with_reducible assumption) | assumption)
          have q245 : x5_2 < (l1_0.length : Int) := od (by first | (with_reducible assumption) | assumption)
          obtain ⟨ad245, A245_2, c245_2, A245_5, c245_5, e245, hx245_0, hx245_1, hx245_2, hx245_3, hx245_4, hx245_5, hl245_2, hi245_2, hl245_5, hi245_5⟩ := at_T43 HR1_0.out x5_2 p245 q245
          have hw245_5 := hx245_5
          have hw245_4 := hx245_4
          have hw245_3 := hx245_3
          have hw245_2 := hx245_2
          have hw245_1 := hx245_1
          have hw245_0 := hx245_0
          cases e245
          replace hx245_0 := (HB.out.cell (World.block_lt_of_cell? w _ hx245_0)).trans hx245_0
          replace hx245_1 := (HB.out.cell (World.block_lt_of_cell? w _ hx245_1)).trans hx245_1
          replace hx245_2 := (HB.out.cell (World.block_lt_of_cell? w _ hx245_2)).trans hx245_2
          replace hx245_3 := (HB.out.cell (World.block_lt_of_cell? w _ hx245_3)).trans hx245_3
          replace hx245_4 := (HB.out.cell (World.block_lt_of_cell? w _ hx245_4)).trans hx245_4
          replace hx245_5 := (HB.out.cell (World.block_lt_of_cell? w _ hx245_5)).trans hx245_5
          have HR245_2 := aS hi245_2
          have HC245_2 := aS hl245_2
          clear hi245_2 hl245_2
          have HR245_5 := aS hi245_5
          have HC245_5 := aS hl245_5
          clear hi245_5 hl245_5
          replace p245 := eq_true p245
          replace q245 := eq_true q245
          refine start_ (n := 12) (S := fun w' => w'.cell? ⟨gb242, 0, none⟩ = some (.slice (some ad244) l0_0.length c0_0) ∧ w'.cell? ⟨gb242, 1, none⟩ = some (.bool a0_1) ∧ w'.cell? ⟨gb243, 0, none⟩ = some (.slice (some ad245) l1_0.length c1_0) ∧ w'.cell? ⟨gb243, 1, none⟩ = some (.bool a1_1) ∧ w'.cell? (ad244.add ((x5_2).toNat * 6)) = some (.int .i64 ((q00 l0_0 x5_2).f0)) ∧ w'.cell? ⟨(ad244.add ((x5_2).toNat * 6)).block, (ad244.add ((x5_2).toNat * 6)).off + 1, none⟩ = some (.string ((q00 l0_0 x5_2).f1)) ∧ w'.cell? ⟨(ad244.add ((x5_2).toNat * 6)).block, (ad244.add ((x5_2).toNat * 6)).off + 2, none⟩ = some (.slice A244_2 ((q00 l0_0 x5_2).f2).length c244_2) ∧ w'.cell? ⟨(ad244.add ((x5_2).toNat * 6)).block, (ad244.add ((x5_2).toNat * 6)).off + 3, none⟩ = some (.string ((q00 l0_0 x5_2).f3)) ∧ w'.cell? ⟨(ad244.add ((x5_2).toNat * 6)).block, (ad244.add ((x5_2).toNat * 6)).off + 4, none⟩ = some (.int .i64 ((q00 l0_0 x5_2).f4)) ∧ w'.cell? ⟨(ad244.add ((x5_2).toNat * 6)).block, (ad244.add ((x5_2).toNat * 6)).off + 5, none⟩ = some (.slice A244_5 ((q00 l0_0 x5_2).f5).length c244_5) ∧ w'.cell? (ad245.add ((x5_2).toNat * 6)) = some (.int .i64 ((q00 l1_0 x5_2).f0)) ∧ w'.cell? ⟨(ad245.add ((x5_2).toNat * 6)).block, (ad245.add ((x5_2).toNat * 6)).off + 1, none⟩ = some (.string ((q00 l1_0 x5_2).f1)) ∧ w'.cell? ⟨(ad245.add ((x5_2).toNat * 6)).block, (ad245.add ((x5_2).toNat * 6)).off + 2, none⟩ = some (.slice A245_2 ((q00 l1_0 x5_2).f2).length c245_2) ∧ w'.cell? ⟨(ad245.add ((x5_2).toNat * 6)).block, (ad245.add ((x5_2).toNat * 6)).off + 3, none⟩ = some (.string ((q00 l1_0 x5_2).f3)) ∧ w'.cell? ⟨(ad245.add ((x5_2).toNat * 6)).block, (ad245.add ((x5_2).toNat * 6)).off + 4, none⟩ = some (.int .i64 ((q00 l1_0 x5_2).f4)) ∧ w'.cell? ⟨(ad245.add ((x5_2).toNat * 6)).block, (ad245.add ((x5_2).toNat * 6)).off + 5, none⟩ = some (.slice A245_5 ((q00 l1_0 x5_2).f5).length c245_5)) (ds := []) #[false, false, false, false, false, false, false, false, false, false, false, false] (by kernel_rfl) rfl rfl ⟨(q05 BK242.out 0).trans rfl, (q05 BK242.out 1).trans rfl, (q05 BK243.out 0).trans rfl, (q05 BK243.out 1).trans rfl, ((HB.out.cell (World.block_lt_of_cell? w _ hw244_0)).trans hw244_0), ((HB.out.cell (World.block_lt_of_cell? w _ hw244_1)).trans hw244_1), ((HB.out.cell (World.block_lt_of_cell? w _ hw244_2)).trans hw244_2), ((HB.out.cell (World.block_lt_of_cell? w _ hw244_3)).trans hw244_3), ((HB.out.cell (World.block_lt_of_cell? w _ hw244_4)).trans hw244_4), ((HB.out.cell (World.block_lt_of_cell? w _ hw244_5)).trans hw244_5), ((HB.out.cell (World.block_lt_of_cell? w _ hw245_0)).trans hw245_0), ((HB.out.cell (World.block_lt_of_cell? w _ hw245_1)).trans hw245_1), ((HB.out.cell (World.block_lt_of_cell? w _ hw245_2)).trans hw245_2), ((HB.out.cell (World.block_lt_of_cell? w _ hw245_3)).trans hw245_3), ((HB.out.cell (World.block_lt_of_cell? w _ hw245_4)).trans hw245_4), ((HB.out.cell (World.block_lt_of_cell? w _ hw245_5)).trans hw245_5)⟩ (fun hHeld => ?_); refine with_tabW clerestoryref1_SameDoc.tab6 clerestoryref1_SameDoc.bits6 (fun HT_ HW_ => ?_)
          generalize wr.drew = w25 at BK242 BK243 HB HR244_2 HR244_5 HR245_2 HR245_5 hx244_0 hx244_1 hx244_2 hx244_3 hx244_4 hx244_5 hx245_0 hx245_1 hx245_2 hx245_3 hx245_4 hx245_5 hHeld ⊢
          refine q0m (i := 0) (N := some 27) (v := ?_) (a' := ?_) #[true, false, false, false, false, false, false, false, false, false, false, false] rfl rfl (q0r HT_.out (by kernel_rfl)) (fun _ _ _ h => h) (Or.inl ⟨by rfl, ?_⟩) ?_ ?_
          rotate_left
          ·intro w'
           go_simp
           with_reducible rfl
          rotate_left
          ·simp only [Act.put, s1, s2, s3, q0d, q0e]
           rfl
          refine q0m (i := 2) (N := some 29) (v := ?_) (a' := ?_) #[true, false, true, false, false, false, false, false, false, false, false, false] rfl rfl (q0r HT_.out (by kernel_rfl)) (fun _ _ _ h => h) (Or.inl ⟨by rfl, ?_⟩) ?_ ?_
          rotate_left
          ·intro w'
           go_simp
           with_reducible rfl
          rotate_left
          ·simp only [Act.put, s1, s2, s3, q0d, q0e]
           rfl
          refine q0m (i := 5) (N := some 32) (v := ?_) (a' := ?_) #[true, false, true, false, false, true, false, false, false, false, false, false] rfl rfl (q0r HT_.out (by kernel_rfl)) (fun _ _ _ h => h) (Or.inl ⟨by rfl, ?_⟩) ?_ ?_
          rotate_left
          ·intro w'
           go_simp
           with_reducible rfl
          rotate_left
          ·simp only [Act.put, s1, s2, s3, q0d, q0e]
           rfl
          refine q0m (i := 7) (N := some 34) (v := ?_) (a' := ?_) #[true, false, true, false, false, true, false, true, false, false, false, false] rfl rfl (q0r HT_.out (by kernel_rfl)) (fun _ _ _ h => h) (Or.inl ⟨by rfl, ?_⟩) ?_ ?_
          rotate_left
          ·intro w'
           go_simp
           with_reducible rfl
          rotate_left
          ·simp only [Act.put, s1, s2, s3, q0d, q0e]
           rfl
          refine take_ (i := 1) (N := some 28) (v := ?_) (a' := ?_) #[true, true, true, false, false, true, false, true, false, false, false, false] rfl rfl (q1p HT_.out HW_.out (by kernel_rfl)) (fun _ _ _ h => h) (Or.inl ⟨by rfl, ?_⟩) hHeld ?_ ?_
          rotate_left
          ·rintro w' ⟨s0, s1, s2, s3, s4, s5, s6, s7, s8, s9, s10, s11, s12, s13, s14, s15⟩
           go_simp
           with_reducible rfl
          rotate_left
          ·simp only [Act.put, s1, s2, s3, q0d, q0e]
           rfl
          refine q0m (i := 3) (N := some 30) (v := ?_) (a' := ?_) #[true, true, true, true, false, true, false, true, false, false, false, false] rfl rfl (q0r HT_.out (by kernel_rfl)) (fun _ _ _ h => h) (Or.inl ⟨by rfl, ?_⟩) ?_ ?_
          rotate_left
          ·intro w'
           go_simp
           with_reducible rfl
          rotate_left
          ·simp only [Act.put, s1, s2, s3, q0d, q0e]
           rfl
          refine take_ (i := 4) (N := some 31) (v := ?_) (a' := ?_) #[true, true, true, true, true, true, false, true, false, false, false, false] rfl rfl (q1p HT_.out HW_.out (by kernel_rfl)) (fun _ _ _ h => h) (Or.inl ⟨by rfl, ?_⟩) hHeld ?_ ?_
          rotate_left
          ·rintro w' ⟨s0, s1, s2, s3, s4, s5, s6, s7, s8, s9, s10, s11, s12, s13, s14, s15⟩
           go_simp
           with_reducible rfl
          rotate_left
          ·simp only [Act.put, s1, s2, s3, q0d, q0e]
           rfl
          refine take_ (i := 6) (N := some 33) (v := ?_) (a' := ?_) #[true, true, true, true, true, true, true, true, false, false, false, false] rfl rfl (q1p HT_.out HW_.out (by kernel_rfl)) (fun _ _ _ h => h) (Or.inl ⟨by rfl, ?_⟩) hHeld ?_ ?_
          rotate_left
          ·rintro w' ⟨s0, s1, s2, s3, s4, s5, s6, s7, s8, s9, s10, s11, s12, s13, s14, s15⟩
           go_simp
           with_reducible rfl
          rotate_left
          ·simp only [Act.put, s1, s2, s3, q0d, q0e]
           rfl
          refine q0m (i := 8) (N := some 35) (v := ?_) (a' := ?_) #[true, true, true, true, true, true, true, true, true, false, false, false] rfl rfl (q0r HT_.out (by kernel_rfl)) (fun _ _ _ h => h) (Or.inl ⟨by rfl, ?_⟩) ?_ ?_
          rotate_left
          ·intro w'
           go_simp
           with_reducible rfl
          rotate_left
          ·simp only [Act.put, s1, s2, s3, q0d, q0e]
           rfl
          refine take_ (i := 9) (N := some 36) (v := ?_) (a' := ?_) #[true, true, true, true, true, true, true, true, true, true, false, false] rfl rfl (q1p HT_.out HW_.out (by kernel_rfl)) (fun _ _ _ h => h) (Or.inl ⟨by rfl, ?_⟩) hHeld ?_ ?_
          rotate_left
          ·rintro w' ⟨s0, s1, s2, s3, s4, s5, s6, s7, s8, s9, s10, s11, s12, s13, s14, s15⟩
           go_simp
           with_reducible rfl
          rotate_left
          ·simp only [Act.put, s1, s2, s3, q0d, q0e]
           rfl
          refine one_ (i := 10) (N := some 37) #[true, true, true, true, true, true, true, true, true, true, true, false] rfl rfl (one_of HT_.out (by kernel_rfl)) (by decide) (fun K hK => ?_)
          refine goes_ Tryd.func103 (by kernel_rfl) rfl #[.agg #[.int .i64 ((q00 l0_0 x5_2).f0), .string ((q00 l0_0 x5_2).f1), .slice A244_2 ((q00 l0_0 x5_2).f2).length c244_2, .string ((q00 l0_0 x5_2).f3), .int .i64 ((q00 l0_0 x5_2).f4), .slice A244_5 ((q00 l0_0 x5_2).f5).length c244_5], .agg #[.int .i64 ((q00 l1_0 x5_2).f0), .string ((q00 l1_0 x5_2).f1), .slice A245_2 ((q00 l1_0 x5_2).f2).length c245_2, .string ((q00 l1_0 x5_2).f3), .int .i64 ((q00 l1_0 x5_2).f4), .slice A245_5 ((q00 l1_0 x5_2).f5).length c245_5]] (by rfl) rfl rfl (by (try simp only [List.map_toArray, List.map_cons, List.map_nil]); first | done | rfl | (simp only [List.length_drop, List.length_take]; rfl)) ?_
          with_reducible refine (clerestoryref1_SameNode.calls k2 ((q00 l0_0 x5_2).f0) ((q00 l0_0 x5_2).f1) _ _ ((q00 l0_0 x5_2).f2) ((q00 l0_0 x5_2).f3) ((q00 l0_0 x5_2).f4) _ _ ((q00 l0_0 x5_2).f5) ((q00 l1_0 x5_2).f0) ((q00 l1_0 x5_2).f1) _ _ ((q00 l1_0 x5_2).f2) ((q00 l1_0 x5_2).f3) ((q00 l1_0 x5_2).f4) _ _ ((q00 l1_0 x5_2).f5) false _ ?side1 ?side2 ?side3 ?side4 ?side5 ?side6 ?side7 ?side8 A17.out).mono ?_
          (case side1 => repeat (first | exact (Kd.C_below HR244_2.out HB.out) | (with_reducible refine cA ?_ _) | (with_reducible refine cN ?_ _) | (with_reducible refine cD ?_)))
          (case side2 => exact HC244_2.out)
          (case side3 => repeat (first | exact (Kd.C_below HR244_5.out HB.out) | (with_reducible refine cA ?_ _) | (with_reducible refine cN ?_ _) | (with_reducible refine cD ?_)))
          (case side4 => exact HC244_5.out)
          (case side5 => repeat (first | exact (Kd.C_below HR245_2.out HB.out) | (with_reducible refine cA ?_ _) | (with_reducible refine cN ?_ _) | (with_reducible refine cD ?_)))
          (case side6 => exact HC245_2.out)
          (case side7 => repeat (first | exact (Kd.C_below HR245_5.out HB.out) | (with_reducible refine cA ?_ _) | (with_reducible refine cN ?_ _) | (with_reducible refine cD ?_)))
          (case side8 => exact HC245_5.out)
          rintro e w26 ⟨rfl, hb⟩
          refine ⟨_, rfl, ?_⟩
          have n0_ := aS (q04 (g := gb242) (o := .cells #[.slice (some ad244) l0_0.length c0_0, .bool a0_1] 24 (0, 0)) (by (with_reducible repeat (first | refine kN ?_ _ | refine kD ?_ | refine kA ?_ _)); exact BK242.out) hb)
          have n1_ := aS (q04 (g := gb243) (o := .cells #[.slice (some ad245) l1_0.length c1_0, .bool a1_1] 24 (0, 0)) (by (with_reducible repeat (first | refine kN ?_ _ | refine kD ?_ | refine kA ?_ _)); exact BK243.out) hb)
          have n2_ := aS (q01 (by repeat (first | (with_reducible first | exact HB.out | apply bA | apply bN | apply bD | refine bS ?_ GE242.out | refine bS ?_ GE243.out) | exact HB.out)) hb)
          clear BK242
          clear BK243
          clear HB
          have BK242 := n0_
          have BK243 := n1_
          have HB := n2_
          clear n0_ n1_ n2_
          (try clear hb)
          (try clear hb2)
          (try clear hk)
          (try clear hi)
          refine hK.out _ _ ⟨(q05 BK242.out 0).trans rfl, (q05 BK242.out 1).trans rfl, (q05 BK243.out 0).trans rfl, (q05 BK243.out 1).trans rfl, ((HB.out.cell (World.block_lt_of_cell? w _ hw244_0)).trans hw244_0), ((HB.out.cell (World.block_lt_of_cell? w _ hw244_1)).trans hw244_1), ((HB.out.cell (World.block_lt_of_cell? w _ hw244_2)).trans hw244_2), ((HB.out.cell (World.block_lt_of_cell? w _ hw244_3)).trans hw244_3), ((HB.out.cell (World.block_lt_of_cell? w _ hw244_4)).trans hw244_4), ((HB.out.cell (World.block_lt_of_cell? w _ hw244_5)).trans hw244_5), ((HB.out.cell (World.block_lt_of_cell? w _ hw245_0)).trans hw245_0), ((HB.out.cell (World.block_lt_of_cell? w _ hw245_1)).trans hw245_1), ((HB.out.cell (World.block_lt_of_cell? w _ hw245_2)).trans hw245_2), ((HB.out.cell (World.block_lt_of_cell? w _ hw245_3)).trans hw245_3), ((HB.out.cell (World.block_lt_of_cell? w _ hw245_4)).trans hw245_4), ((HB.out.cell (World.block_lt_of_cell? w _ hw245_5)).trans hw245_5)⟩ (fun hHeld => ?_)
          clear hK K
          refine norm_ (a' := ?_) ?_ ?_
          rotate_left
          ·show Act.put _ (some 37) _ = _
           simp only [Act.put, s1, s2, s3, q0d, q0e]
           rfl
          refine q0m (i := 11) (N := some 38) (v := ?_) (a' := ?_) #[true, true, true, true, true, true, true, true, true, true, true, true] rfl rfl (q0r HT_.out (by kernel_rfl)) (fun _ _ _ h => h) (Or.inl ⟨by rfl, ?_⟩) ?_ ?_
          rotate_left
          ·intro w'
           go_simp
           with_reducible rfl
          rotate_left
          ·simp only [Act.put, s1, s2, s3, q0d, q0e]
           rfl
          refine done_ (done_of HT_.out (by kernel_rfl)) ?_
          try go_wp2
          go_ret
          exact ⟨by first | rfl | (simp [q03, q02] <;> rfl) | (simp [*, q03, q02] <;> rfl), by repeat (first | (with_reducible first | exact HB.out | apply bA | apply bN | apply bD | refine bS ?_ GE242.out | refine bS ?_ GE243.out) | exact HB.out)⟩
        ·rw [if_neg c16] at H
         exact absurd H (by simp)
       ·rw [if_neg c15] at H
        exact absurd H (by simp)
      ·rw [if_neg c14] at H
       have c14b0 : decide (x5_2 < (l0_0.length : Int)) = false := decide_eq_false c14
       clear c14
       obtain rfl := Option.some.inj H
       have hnb27 := NB242_243.out
       have hnc27 := NB243_242.out
       have hcz28_0 : wr.cell? ⟨gb242, 0, none⟩ = some (.slice A0_0 l0_0.length c0_0) := (q05 BK242.out 0).trans rfl
       have hcz28_1 : wr.cell? ⟨gb242, 1, none⟩ = some (.bool a0_1) := (q05 BK242.out 1).trans rfl
       have hfz28_0 := q0b BK242.out 0
       have hfz28_1 := q0b BK242.out 1
       go_wp2
       go_ret
       exact ⟨by first | rfl | (simp [q03, q02] <;> rfl) | (simp [*, q03, q02] <;> rfl), by repeat (first | (with_reducible first | exact HB.out | apply bA | apply bN | apply bD | refine bS ?_ GE242.out | refine bS ?_ GE243.out) | exact HB.out)⟩
end Go.Proofs.YthjnallbbhnndaaDoor.XDb
namespace Go.Proofs.YthjnallbbhnndaaDoor.XDb
open Go.Proofs.YthjnallbbhnndaaDoor.Short Go.RowKit Go.Proofs.YthjnallbbhnndaaDoorW.PrintWords Go.Proofs.YthjnallbbhnndaaDoorW.PrintLast Go.Proofs.YthjnallbbhnndaaDoorW.PrintMore
attribute [local go_sem] q17 q15 q1j q1i q0w q0v q16 q14   -- for this text's walks alone
set_option linter.unusedVariables false
set_option linter.unusedSimpArgs false
def clerestorylaw1_DomChecks.f (k : Nat) (l0_0 : List (S43)) (a0_1 : Bool) : Option (Bool) := (clerestorylaw1_few.f l0_0 a0_1 210).bind fun bt248 => ((clerestorylaw1_domBegun.f k).bind fun t252 => (if t252 = true then ((dom_Check.f k bt248.1 bt248.2).bind fun t253 => ((clerestoryref1_DocErr.f k bt248.1 bt248.2).bind fun t254 => (if t253 = t254 then ((dom_New.f).bind fun bt255 => ((clerestoryref1_SameDoc.f k bt255.1 bt255.2 (([(⟨1, (⟨#[]⟩ : ByteArray), ([] : List (S122)), (⟨#[]⟩ : ByteArray), (-1), ([] : List Int)⟩ : S43)] : List (S43))) false).bind fun t262 => (some t262))) else (some false)))) else (some false)))
theorem clerestorylaw1_DomChecks.mono : ∀ a0 a1 k, LeO (clerestorylaw1_DomChecks.f k a0 a1) (clerestorylaw1_DomChecks.f (k + 1) a0 a1) := by
 intro a0 a1 k
 unfold clerestorylaw1_DomChecks.f
 repeat' first | with_reducible first | apply clerestorylaw1_domBegun.mono | apply clerestoryref1_DocErr.mono | apply clerestoryref1_SameDoc.mono | apply dom_Check.mono | exact LeO.refl _ | exact LeO.none _ | refine LeO.ite ?_ ?_ | refine LeO.bind ?_ (fun _ => ?_) | (first | apply clerestorylaw1_domBegun.mono | apply clerestoryref1_DocErr.mono | apply clerestoryref1_SameDoc.mono | apply dom_Check.mono | exact LeO.none _ | refine LeO.ite ?_ ?_ | refine LeO.bind ?_ (fun _ => ?_))
def clerestorylaw1_DomChecks.T2 : Bool × List (List Nat × List Nat) := (true, [([], []), ([0, 0], [0]), ([1], [1]), ([2, 1, 1], [1, 2]), ([1], [1]), ([4, 3, 1], [1, 4]), ([3, 5, 1], [1, 3, 5]), ([1, 6], [1, 6]), ([7, 5], [7]), ([8, 8], [8]), ([8], [8]), ([10, 8], [8, 10]), ([11, 8], [8, 11]), ([9, 12, 9, 8], [8, 9, 12]), ([8, 13], [8, 13]), ([14, 13, 0, 1, 2, 3, 4, 5, 6, 7, 8, 9, 10, 11, 12, 13, 14], [14])])
def clerestorylaw1_DomChecks.B2 : List Nat := [0, 1, 3, 7, 3, 31, 63, 127, 255, 511, 511, 1535, 3583, 8191, 16383, 32767]
theorem clerestorylaw1_DomChecks.tab2 : rtab .any (opsOf Tryd.f10 2) = clerestorylaw1_DomChecks.T2 := by kernel_rfl
theorem clerestorylaw1_DomChecks.bits2 : waitsOk clerestorylaw1_DomChecks.T2.2 clerestorylaw1_DomChecks.B2 = true := by kernel_rfl
set_option maxHeartbeats 8000000 in
set_option maxRecDepth 100000 in
theorem clerestorylaw1_DomChecks.calls (k : Nat) (A0_0 : Option Addr) (c0_0 : Nat) (l0_0 : List (S43)) (a0_1 : Bool) (r : Bool) (w : World) (hr0_0 : Kd.C k43 w A0_0 l0_0.length l0_0) (hc0_0 : l0_0.length ≤ c0_0) (h : clerestorylaw1_DomChecks.f k l0_0 a0_1 = some r) :
 Calls Tryd.prog 10 #[.agg #[.slice A0_0 l0_0.length c0_0, .bool a0_1]] w fun e w' => e = .returned (.bool r) ∧ Below w.heap.size w w' := by
 have hu24 := Tryd.underlying24
 have hu43 := Tryd.underlying43
 have HR0_0 := aS hr0_0
 have HC0_0 := aS hc0_0
 clear hr0_0 hc0_0
 have HB := aS (Below.refl w.heap.size w)
 have H := h; clear h; unfold clerestorylaw1_DomChecks.f at H
 replace H := iB H
 obtain ⟨⟨t248, t251⟩, A2, H⟩ := H
 try dsimp only at H
 replace H := iB H
 obtain ⟨t252, A3, H⟩ := H
 refine iV H ?p4 ?n4 <;> clear H
 case' p4 => intro c4 H; subst c4; replace H := iB H; obtain ⟨t253, A5, H⟩ := H; replace H := iB H; obtain ⟨t254, A6, H⟩ := H; refine iE H ?p7 ?n7 <;> clear H
 case' p7 => intro c7b0 c7b1 H
 case' n7 => intro c7 c7b0 c7b1 H
 case' n4 => intro c4 H; subst c4
 case p7 =>
  replace H := iB H
  obtain ⟨⟨t255, t258⟩, A8, H⟩ := H
  try dsimp only at H
  obtain ⟨y259, hy259⟩ : ∃ y_ : List (S43), y_ = (([(⟨1, (⟨#[]⟩ : ByteArray), ([] : List (S122)), (⟨#[]⟩ : ByteArray), (-1), ([] : List Int)⟩ : S43)] : List (S43))) := ⟨_, rfl⟩
  replace H : ((clerestoryref1_SameDoc.f k t255 t258 y259 false).bind fun t262 => (some t262)) = some r := by first | (rw [hy259]; with_reducible exact H) | (have H2_ := (Option.bind_some _ _).symm.trans H; rw [hy259]; with_reducible exact H2_) | (have H2_ := (Option.bind_some _ _).symm.trans H; with_reducible exact H2_) | with_reducible exact H | (rw [hy259]; exact H) | exact H
  have Ny259 := aS hy259
  clear hy259
  replace H := iB H
  obtain ⟨t262, A9, H⟩ := H
  obtain rfl := Option.some.inj H
  go_enter Tryd.func10, Tryd.ntmps10
  try go_wp2_with (first | ((with_reducible refine q06 (N := 1) rfl ?_); (try (refine q0k (by rfl) ?_; dsimp only)); refine box0 rfl (N := 1) rfl (cs := #[.slice A0_0 l0_0.length c0_0, .bool a0_1]) (t := 24) (by first | (go_simp; done) | (go_simp; rfl)) (by repeat (first | (with_reducible first | exact HB.out | apply bA | apply bN | apply bD) | exact HB.out)) ?_; clear HB; intro gb247 w10 BK247 GW247 HB; have GE247 := GW247; obtain ⟨hczL_0, hczL_1, hfzL_0, hfzL_1⟩ := bk2 BK247.out) | ((with_reducible refine q09 (f := 15) rfl ?_); refine q0n (some 4) rfl rfl Tryd.func15 (by kernel_rfl) rfl #[.agg #[.slice A0_0 l0_0.length c0_0, .bool a0_1], .int .i64 210] rfl (by (try simp only [List.map_toArray, List.map_cons, List.map_nil]); first | done | rfl | (simp only [List.length_drop, List.length_take]; rfl)) ?_; (with_reducible refine (clerestorylaw1_few.calls (fun k_ => k_ < w.heap.size) _ _ l0_0 a0_1 210 t248 t251 _ ?side1 A2.out).mono ?_); (case side1 => exact Kd.V_mk HC0_0.out (Kd.F_below (Kd.C_F k43_heap HR0_0.out) (by repeat (first | (with_reducible first | exact HB.out | apply bA | apply bN | apply bD | refine bS ?_ GE247.out) | exact HB.out)))); rintro e w12 ⟨v249, rfl, ho0, hb⟩; refine ⟨_, rfl, ?_⟩; have HO250 := aS (Kd.V_lower (Kd.V_mono (ok' := fun k_ => k_ ≠ gb247) ho0 (fun k_ hk_ => Or.elim hk_ (fun hs_ => fun e_ => Nat.not_le.2 hs_ (by rw [e_]; exact GW247.out)) (fun hn_ => (Kd.freshB (g := gb247) (o := .cells #[.slice A0_0 l0_0.length c0_0, .bool a0_1] 24 (0, 0)) (by (with_reducible repeat (first | refine kN ?_ _ | refine kD ?_ | refine kA ?_ _)); exact BK247.out) k_ hn_)))) (q07 (by repeat (first | (with_reducible first | exact HB.out | apply bA | apply bN | apply bD | refine bS ?_ GE247.out) | exact HB.out)))); replace BK247 := aS (q04 (g := gb247) (o := .cells #[.slice A0_0 l0_0.length c0_0, .bool a0_1] 24 (0, 0)) (by (with_reducible repeat (first | refine kN ?_ _ | refine kD ?_ | refine kA ?_ _)); exact BK247.out) hb); replace HB := aS (q01 (by repeat (first | (with_reducible first | exact HB.out | apply bA | apply bN | apply bD | refine bS ?_ GE247.out) | exact HB.out)) hb); (try clear hb); (try clear hb2); (try clear hk); (try clear hi); (try clear ho0); obtain ⟨Ao13, co13, eo13⟩ := Kd.V_slice HO250.out; subst eo13; obtain ⟨hczL_0, hczL_1, hfzL_0, hfzL_1⟩ := bk2 BK247.out))
  have n0_ : Aside0 (Kd.V k43 43 ((w12.setCell ⟨gb247, 0, none⟩ (.slice Ao13 t248.length co13)).setCell ⟨gb247, 1, none⟩ (.bool t251)) w.heap.size (fun k_ => k_ ≠ gb247) (.slice Ao13 t248.length co13) t248) := ⟨by (with_reducible repeat (first | apply vA | apply vN | apply vD)); exact Kd.V_mono (Kd.V_far (p := ⟨gb247, 1, none⟩) (Kd.V_far (p := ⟨gb247, 0, none⟩) (Kd.V_mono HO250.out (fun k_ hk => (⟨hk, hk⟩ : _ ∧ k_ ≠ gb247))) (fun _ hk => hk.2) (.slice Ao13 t248.length co13)) (fun _ hk => hk.2) (.bool t251)) (fun _ hk => hk.1)⟩
  have n1_ : Aside0 (((w12.setCell ⟨gb247, 0, none⟩ (.slice Ao13 t248.length co13)).setCell ⟨gb247, 1, none⟩ (.bool t251)).heap[gb247]? = some (.cells #[.slice Ao13 t248.length co13, .bool t251] 24 (0, 0))) := ⟨by (with_reducible repeat (first | refine kN ?_ _ | refine kD ?_ | refine kA ?_ _)); refine q0g (cs := #[.slice Ao13 t248.length co13, .bool a0_1]) ?_ 1 _ rfl; (with_reducible repeat (first | refine kN ?_ _ | refine kD ?_ | refine kA ?_ _)); refine q0g (cs := #[.slice A0_0 l0_0.length c0_0, .bool a0_1]) ?_ 0 _ rfl; (with_reducible repeat (first | refine kN ?_ _ | refine kD ?_ | refine kA ?_ _)); exact BK247.out⟩
  have n2_ : Aside0 (Below w.heap.size w ((w12.setCell ⟨gb247, 0, none⟩ (.slice Ao13 t248.length co13)).setCell ⟨gb247, 1, none⟩ (.bool t251))) := ⟨by repeat (first | (with_reducible first | exact HB.out | apply bA | apply bN | apply bD | refine bS ?_ GE247.out) | exact HB.out)⟩
  (try clear HO250)
  (try clear BK247)
  (try clear HB)
  generalize ((w12.setCell ⟨gb247, 0, none⟩ (.slice Ao13 t248.length co13)).setCell ⟨gb247, 1, none⟩ (.bool t251)) = w15 at n0_ n1_ n2_ ⊢
  have HO250 := n0_
  have BK247 := n1_
  have HB := n2_
  clear n0_ n1_ n2_
  have n0_ := aS (Kd.V_drew HO250.out)
  have n1_ := aS (q18 BK247.out)
  have n2_ := aS (q1k HB.out)
  clear HO250
  clear BK247
  clear HB
  have HO250 := n0_
  have BK247 := n1_
  have HB := n2_
  clear n0_ n1_ n2_
  refine start_ (n := 16) (S := fun w' => True) (ds := []) #[false, false, false, false, false, false, false, false, false, false, false, false, false, false, false, false] (by kernel_rfl) rfl rfl trivial (fun hHeld => ?_); refine with_tabW clerestorylaw1_DomChecks.tab2 clerestorylaw1_DomChecks.bits2 (fun HT_ HW_ => ?_)
  generalize w15.drew = w16 at HO250 BK247 HB hHeld ⊢
  refine inv_at [0, 1, 2, 3, 4, 5, 6, 7, 8, 9, 10, 11, 12, 13, 14, 15] (fun a0_ b a w' => ∃ (v256 : Value) (v260 : Value) (m9_ : Value) (m12_ : Value), a = q1n a0_ b [(0, 5, .bool true), (1, 6, .bool true), (2, 7, .agg #[.slice Ao13 t248.length co13, .bool t251]), (3, 8, .int .i64 t253), (4, 9, .agg #[.slice Ao13 t248.length co13, .bool t251]), (5, 10, .int .i64 t254), (6, 11, .bool (t253 == t254)), (7, 12, .bool (t253 == t254)), (8, 13, .bool (t253 == t254)), (9, 14, m9_), (10, 15, .agg #[.int .i64 1, .string (⟨#[]⟩ : ByteArray), .slice none 0 0, .string (⟨#[]⟩ : ByteArray), .int .i64 (-1), .slice none 0 0]), (11, 16, v260), (12, 17, m12_), (13, 18, .bool t262), (14, 19, .bool t262), (15, 2, .bool t262)] ∧ (Kd.V k43 43 w' w.heap.size (fun k_ => k_ ≠ gb247) (.slice Ao13 t248.length co13) t248) ∧ (w'.heap[gb247]? = some (.cells #[.slice Ao13 t248.length co13, .bool t251] 24 (0, 0))) ∧ (Below w.heap.size w w') ∧ (b 9 = true → Kd.S k43 43 w' w.heap.size (fun _ => True) v256 t255) ∧ (b 11 = true → Kd.S k43 43 w' w.heap.size (fun _ => True) v260 y259) ∧ (b 9 = true → (m9_ : Value) = .agg #[v256, .bool t258]) ∧ (b 12 = true → (m12_ : Value) = .agg #[v260, .bool false])) HT_.out HW_.out (by kernel_rfl) (by kernel_rfl) ?_ ?_ ?_
  ·exact ⟨.bool false, .bool false, .bool false, .bool false, by simp only [q1n, Bool.false_eq_true, if_false], HO250.out, BK247.out, HB.out, fun h_ => absurd h_ (by decide), fun h_ => absurd h_ (by decide), fun h_ => absurd h_ (by decide), fun h_ => absurd h_ (by decide)⟩
  ·skip
   clear BK247 HB HO250
   refine q0z ?_ ?_
   ·rintro b a w' ⟨v256, v260, m9_, m12_, ha, Q_HO250, Q_BK247, Q_HB, Q_HO257, Q_HO261, Q_X9_, Q_X12_⟩ hb_ hon hoff
    refine ⟨_, rfl, fun K hK => ?_⟩
    replace ha := aS ha
    have HO250 := aS Q_HO250
    have BK247 := aS Q_BK247
    have HB := aS Q_HB
    refine goes_ Tryd.func51 (by kernel_rfl) rfl #[] (by rfl) rfl rfl (by first | (simp only [List.map_toArray, List.map_cons, List.map_nil, Act.eval, Array.getD_eq_getD_getElem?, Option.getD_some]; done) | (simp only [List.map_toArray, List.map_cons, List.map_nil, Act.eval, Array.getD_eq_getD_getElem?, Option.getD_some]; rfl)) ?_
    with_reducible refine (clerestorylaw1_domBegun.calls k  true _ A3.out).mono ?_
    rintro e w17 ⟨rfl, hb⟩
    refine ⟨_, rfl, ?_⟩
    have n0_ := aS (Kd.V_below (by (with_reducible repeat (first | apply vA | apply vN | apply vD)); exact HO250.out) hb)
    have n1_ := aS (q04 (g := gb247) (o := .cells #[.slice Ao13 t248.length co13, .bool t251] 24 (0, 0)) (by (with_reducible repeat (first | refine kN ?_ _ | refine kD ?_ | refine kA ?_ _)); exact BK247.out) hb)
    have n2_ := aS (q01 (by repeat (first | (with_reducible first | exact HB.out | apply bA | apply bN | apply bD | refine bS ?_ GE247.out) | exact HB.out)) hb)
    clear HO250
    clear BK247
    clear HB
    have HO250 := n0_
    have BK247 := n1_
    have HB := n2_
    clear n0_ n1_ n2_
    (try clear hb)
    (try clear hb2)
    (try clear hk)
    (try clear hi)
    refine hK.out _ _ ⟨v256, v260, m9_, m12_, (by rw [ha.out]; exact q11 0 hb_ rfl rfl rfl), (by (with_reducible repeat (first | apply vA | apply vN | apply vD)); exact HO250.out), (by (with_reducible repeat (first | refine kN ?_ _ | refine kD ?_ | refine kA ?_ _)); exact BK247.out), (by repeat (first | (with_reducible first | exact HB.out | apply bA | apply bN | apply bD | refine bS ?_ GE247.out) | exact HB.out)), fun h0_ => absurd ((hoff 9 (by kernel_rfl)).symm.trans h0_) (by decide), fun h0_ => absurd ((hoff 11 (by kernel_rfl)).symm.trans h0_) (by decide), fun h0_ => absurd ((hoff 9 (by kernel_rfl)).symm.trans h0_) (by decide), fun h0_ => absurd ((hoff 12 (by kernel_rfl)).symm.trans h0_) (by decide)⟩
   refine q0z ?_ ?_
   ·rintro b a w' ⟨v256, v260, m9_, m12_, ha, Q_HO250, Q_BK247, Q_HB, Q_HO257, Q_HO261, Q_X9_, Q_X12_⟩ hb_ hon hoff
    refine ⟨_, rfl, fun K hK => ?_⟩
    have e5 : a.tmps[5]? = some (.bool true) := by rw [ha]; exact q0q (e := (0, 5, .bool true)) 0 rfl rfl (hon 0 (by kernel_rfl)) rfl
    replace ha := aS ha
    have HO250 := aS Q_HO250
    have BK247 := aS Q_BK247
    have HB := aS Q_HB
    refine value_ (w1 := w') (v := .bool true) (by rfl) rfl ?_ ?_
    ·go_simp
     (try simp only [q0d])
     try rfl
    refine hK.out _ _ ⟨v256, v260, m9_, m12_, (by rw [ha.out]; exact q11 1 hb_ rfl rfl rfl), Q_HO250, Q_BK247, Q_HB, fun h0_ => absurd ((hoff 9 (by kernel_rfl)).symm.trans h0_) (by decide), fun h0_ => absurd ((hoff 11 (by kernel_rfl)).symm.trans h0_) (by decide), fun h0_ => absurd ((hoff 9 (by kernel_rfl)).symm.trans h0_) (by decide), fun h0_ => absurd ((hoff 12 (by kernel_rfl)).symm.trans h0_) (by decide)⟩
   refine q0z ?_ ?_
   ·rintro b a w' ⟨v256, v260, m9_, m12_, ha, Q_HO250, Q_BK247, Q_HB, Q_HO257, Q_HO261, Q_X9_, Q_X12_⟩ hb_ hon hoff
    refine ⟨_, rfl, fun K hK => ?_⟩
    have e1 : a.tmps[1]? = some (.pointer (some ⟨gb247, 0, none⟩)) := by rw [ha]; exact (putSel_off rfl).trans rfl
    have e6 : a.tmps[6]? = some (.bool true) := by rw [ha]; exact q0q (e := (1, 6, .bool true)) 1 rfl rfl (hon 1 (by kernel_rfl)) rfl
    replace ha := aS ha
    have HO250 := aS Q_HO250
    have BK247 := aS Q_BK247
    have HB := aS Q_HB
    have hc0_ : w'.cell? ⟨gb247, 0, none⟩ = some (.slice Ao13 t248.length co13) := (q05 BK247.out 0).trans rfl
    have hc1_ : w'.cell? ⟨gb247, 1, none⟩ = some (.bool t251) := (q05 BK247.out 1).trans rfl
    refine value_ (w1 := w') (v := .agg #[.slice Ao13 t248.length co13, .bool t251]) (q1m rfl rfl rfl (e6.trans (by first | rfl | (simp [*]; done)))) rfl ?_ ?_
    ·go_simp
     (try simp only [q0d])
     try rfl
    refine hK.out _ _ ⟨v256, v260, m9_, m12_, (by rw [ha.out]; exact q11 2 hb_ rfl rfl rfl), Q_HO250, Q_BK247, Q_HB, fun h0_ => absurd ((hoff 9 (by kernel_rfl)).symm.trans h0_) (by decide), fun h0_ => absurd ((hoff 11 (by kernel_rfl)).symm.trans h0_) (by decide), fun h0_ => absurd ((hoff 9 (by kernel_rfl)).symm.trans h0_) (by decide), fun h0_ => absurd ((hoff 12 (by kernel_rfl)).symm.trans h0_) (by decide)⟩
   refine q0z ?_ ?_
   ·rintro b a w' ⟨v256, v260, m9_, m12_, ha, Q_HO250, Q_BK247, Q_HB, Q_HO257, Q_HO261, Q_X9_, Q_X12_⟩ hb_ hon hoff
    refine ⟨_, rfl, fun K hK => ?_⟩
    have e7 : a.tmps[7]? = some (.agg #[.slice Ao13 t248.length co13, .bool t251]) := by rw [ha]; exact q0q (e := (2, 7, .agg #[.slice Ao13 t248.length co13, .bool t251])) 2 rfl rfl (hon 2 (by kernel_rfl)) rfl
    have e6 : a.tmps[6]? = some (.bool true) := by rw [ha]; exact q0q (e := (1, 6, .bool true)) 1 rfl rfl (hon 1 (by kernel_rfl)) rfl
    replace ha := aS ha
    have HO250 := aS Q_HO250
    have BK247 := aS Q_BK247
    have HB := aS Q_HB
    refine goes_ Tryd.func52 (by kernel_rfl) rfl #[.agg #[.slice Ao13 t248.length co13, .bool t251]] (by first | rfl | exact q1m rfl rfl rfl (e6.trans (by first | rfl | (simp [*]; done)))) rfl rfl (by first | (simp only [List.map_toArray, List.map_cons, List.map_nil, Act.eval, Array.getD_eq_getD_getElem?, Option.getD_some, e7, e6]; done) | (simp only [List.map_toArray, List.map_cons, List.map_nil, Act.eval, Array.getD_eq_getD_getElem?, Option.getD_some, e7, e6]; rfl)) ?_
    with_reducible refine (dom_Check.calls k _ _ t248 t251 t253 _ ?side1 ?side2 A5.out).mono ?_
    (case side1 => repeat (first | exact (Kd.V_reads' HO250.out).2.2 | (with_reducible refine cA ?_ _) | (with_reducible refine cN ?_ _) | (with_reducible refine cD ?_)))
    (case side2 => exact (Kd.V_reads' HO250.out).2.1)
    rintro e w19 ⟨rfl, hb⟩
    refine ⟨_, rfl, ?_⟩
    have n0_ := aS (Kd.V_below (by (with_reducible repeat (first | apply vA | apply vN | apply vD)); exact HO250.out) hb)
    have n1_ := aS (q04 (g := gb247) (o := .cells #[.slice Ao13 t248.length co13, .bool t251] 24 (0, 0)) (by (with_reducible repeat (first | refine kN ?_ _ | refine kD ?_ | refine kA ?_ _)); exact BK247.out) hb)
    have n2_ := aS (q01 (by repeat (first | (with_reducible first | exact HB.out | apply bA | apply bN | apply bD | refine bS ?_ GE247.out) | exact HB.out)) hb)
    clear HO250
    clear BK247
    clear HB
    have HO250 := n0_
    have BK247 := n1_
    have HB := n2_
    clear n0_ n1_ n2_
    (try clear hb)
    (try clear hb2)
    (try clear hk)
    (try clear hi)
    refine hK.out _ _ ⟨v256, v260, m9_, m12_, (by rw [ha.out]; exact q11 3 hb_ rfl rfl rfl), (by (with_reducible repeat (first | apply vA | apply vN | apply vD)); exact HO250.out), (by (with_reducible repeat (first | refine kN ?_ _ | refine kD ?_ | refine kA ?_ _)); exact BK247.out), (by repeat (first | (with_reducible first | exact HB.out | apply bA | apply bN | apply bD | refine bS ?_ GE247.out) | exact HB.out)), fun h0_ => absurd ((hoff 9 (by kernel_rfl)).symm.trans h0_) (by decide), fun h0_ => absurd ((hoff 11 (by kernel_rfl)).symm.trans h0_) (by decide), fun h0_ => absurd ((hoff 9 (by kernel_rfl)).symm.trans h0_) (by decide), fun h0_ => absurd ((hoff 12 (by kernel_rfl)).symm.trans h0_) (by decide)⟩
   refine q0z ?_ ?_
   ·rintro b a w' ⟨v256, v260, m9_, m12_, ha, Q_HO250, Q_BK247, Q_HB, Q_HO257, Q_HO261, Q_X9_, Q_X12_⟩ hb_ hon hoff
    refine ⟨_, rfl, fun K hK => ?_⟩
    have e1 : a.tmps[1]? = some (.pointer (some ⟨gb247, 0, none⟩)) := by rw [ha]; exact (putSel_off rfl).trans rfl
    have e6 : a.tmps[6]? = some (.bool true) := by rw [ha]; exact q0q (e := (1, 6, .bool true)) 1 rfl rfl (hon 1 (by kernel_rfl)) rfl
    replace ha := aS ha
    have HO250 := aS Q_HO250
    have BK247 := aS Q_BK247
    have HB := aS Q_HB
    have hc0_ : w'.cell? ⟨gb247, 0, none⟩ = some (.slice Ao13 t248.length co13) := (q05 BK247.out 0).trans rfl
    have hc1_ : w'.cell? ⟨gb247, 1, none⟩ = some (.bool t251) := (q05 BK247.out 1).trans rfl
    refine value_ (w1 := w') (v := .agg #[.slice Ao13 t248.length co13, .bool t251]) (q1m rfl rfl rfl (e6.trans (by first | rfl | (simp [*]; done)))) rfl ?_ ?_
    ·go_simp
     (try simp only [q0d])
     try rfl
    refine hK.out _ _ ⟨v256, v260, m9_, m12_, (by rw [ha.out]; exact q11 4 hb_ rfl rfl rfl), Q_HO250, Q_BK247, Q_HB, fun h0_ => absurd ((hoff 9 (by kernel_rfl)).symm.trans h0_) (by decide), fun h0_ => absurd ((hoff 11 (by kernel_rfl)).symm.trans h0_) (by decide), fun h0_ => absurd ((hoff 9 (by kernel_rfl)).symm.trans h0_) (by decide), fun h0_ => absurd ((hoff 12 (by kernel_rfl)).symm.trans h0_) (by decide)⟩
   refine q0z ?_ ?_
   ·rintro b a w' ⟨v256, v260, m9_, m12_, ha, Q_HO250, Q_BK247, Q_HB, Q_HO257, Q_HO261, Q_X9_, Q_X12_⟩ hb_ hon hoff
    refine ⟨_, rfl, fun K hK => ?_⟩
    have e9 : a.tmps[9]? = some (.agg #[.slice Ao13 t248.length co13, .bool t251]) := by rw [ha]; exact q0q (e := (4, 9, .agg #[.slice Ao13 t248.length co13, .bool t251])) 4 rfl rfl (hon 4 (by kernel_rfl)) rfl
    have e6 : a.tmps[6]? = some (.bool true) := by rw [ha]; exact q0q (e := (1, 6, .bool true)) 1 rfl rfl (hon 1 (by kernel_rfl)) rfl
    replace ha := aS ha
    have HO250 := aS Q_HO250
    have BK247 := aS Q_BK247
    have HB := aS Q_HB
    refine goes_ Tryd.func17 (by kernel_rfl) rfl #[.agg #[.slice Ao13 t248.length co13, .bool t251]] (by first | rfl | exact q1m rfl rfl rfl (e6.trans (by first | rfl | (simp [*]; done)))) rfl rfl (by first | (simp only [List.map_toArray, List.map_cons, List.map_nil, Act.eval, Array.getD_eq_getD_getElem?, Option.getD_some, e9, e6]; done) | (simp only [List.map_toArray, List.map_cons, List.map_nil, Act.eval, Array.getD_eq_getD_getElem?, Option.getD_some, e9, e6]; rfl)) ?_
    with_reducible refine (clerestoryref1_DocErr.calls k _ _ t248 t251 t254 _ ?side1 ?side2 A6.out).mono ?_
    (case side1 => repeat (first | exact (Kd.V_reads' HO250.out).2.2 | (with_reducible refine cA ?_ _) | (with_reducible refine cN ?_ _) | (with_reducible refine cD ?_)))
    (case side2 => exact (Kd.V_reads' HO250.out).2.1)
    rintro e w20 ⟨rfl, hb⟩
    refine ⟨_, rfl, ?_⟩
    have n0_ := aS (Kd.V_below (by (with_reducible repeat (first | apply vA | apply vN | apply vD)); exact HO250.out) hb)
    have n1_ := aS (q04 (g := gb247) (o := .cells #[.slice Ao13 t248.length co13, .bool t251] 24 (0, 0)) (by (with_reducible repeat (first | refine kN ?_ _ | refine kD ?_ | refine kA ?_ _)); exact BK247.out) hb)
    have n2_ := aS (q01 (by repeat (first | (with_reducible first | exact HB.out | apply bA | apply bN | apply bD | refine bS ?_ GE247.out) | exact HB.out)) hb)
    clear HO250
    clear BK247
    clear HB
    have HO250 := n0_
    have BK247 := n1_
    have HB := n2_
    clear n0_ n1_ n2_
    (try clear hb)
    (try clear hb2)
    (try clear hk)
    (try clear hi)
    refine hK.out _ _ ⟨v256, v260, m9_, m12_, (by rw [ha.out]; exact q11 5 hb_ rfl rfl rfl), (by (with_reducible repeat (first | apply vA | apply vN | apply vD)); exact HO250.out), (by (with_reducible repeat (first | refine kN ?_ _ | refine kD ?_ | refine kA ?_ _)); exact BK247.out), (by repeat (first | (with_reducible first | exact HB.out | apply bA | apply bN | apply bD | refine bS ?_ GE247.out) | exact HB.out)), fun h0_ => absurd ((hoff 9 (by kernel_rfl)).symm.trans h0_) (by decide), fun h0_ => absurd ((hoff 11 (by kernel_rfl)).symm.trans h0_) (by decide), fun h0_ => absurd ((hoff 9 (by kernel_rfl)).symm.trans h0_) (by decide), fun h0_ => absurd ((hoff 12 (by kernel_rfl)).symm.trans h0_) (by decide)⟩
   refine q0z ?_ ?_
   ·rintro b a w' ⟨v256, v260, m9_, m12_, ha, Q_HO250, Q_BK247, Q_HB, Q_HO257, Q_HO261, Q_X9_, Q_X12_⟩ hb_ hon hoff
    refine ⟨_, rfl, fun K hK => ?_⟩
    have e8 : a.tmps[8]? = some (.int .i64 t253) := by rw [ha]; exact q0q (e := (3, 8, .int .i64 t253)) 3 rfl rfl (hon 3 (by kernel_rfl)) rfl
    have e10 : a.tmps[10]? = some (.int .i64 t254) := by rw [ha]; exact q0q (e := (5, 10, .int .i64 t254)) 5 rfl rfl (hon 5 (by kernel_rfl)) rfl
    have e6 : a.tmps[6]? = some (.bool true) := by rw [ha]; exact q0q (e := (1, 6, .bool true)) 1 rfl rfl (hon 1 (by kernel_rfl)) rfl
    replace ha := aS ha
    have HO250 := aS Q_HO250
    have BK247 := aS Q_BK247
    have HB := aS Q_HB
    refine value_ (w1 := w') (v := .bool (t253 == t254)) (q1m rfl rfl rfl (e6.trans (by first | rfl | (simp [*]; done)))) rfl ?_ ?_
    ·go_simp
     (try simp only [q0d])
     try rfl
    refine hK.out _ _ ⟨v256, v260, m9_, m12_, (by rw [ha.out]; exact q11 6 hb_ rfl rfl rfl), Q_HO250, Q_BK247, Q_HB, fun h0_ => absurd ((hoff 9 (by kernel_rfl)).symm.trans h0_) (by decide), fun h0_ => absurd ((hoff 11 (by kernel_rfl)).symm.trans h0_) (by decide), fun h0_ => absurd ((hoff 9 (by kernel_rfl)).symm.trans h0_) (by decide), fun h0_ => absurd ((hoff 12 (by kernel_rfl)).symm.trans h0_) (by decide)⟩
   refine q0z ?_ ?_
   ·rintro b a w' ⟨v256, v260, m9_, m12_, ha, Q_HO250, Q_BK247, Q_HB, Q_HO257, Q_HO261, Q_X9_, Q_X12_⟩ hb_ hon hoff
    refine ⟨_, rfl, fun K hK => ?_⟩
    have e6 : a.tmps[6]? = some (.bool true) := by rw [ha]; exact q0q (e := (1, 6, .bool true)) 1 rfl rfl (hon 1 (by kernel_rfl)) rfl
    have e11 : a.tmps[11]? = some (.bool (t253 == t254)) := by rw [ha]; exact q0q (e := (6, 11, .bool (t253 == t254))) 6 rfl rfl (hon 6 (by kernel_rfl)) rfl
    replace ha := aS ha
    have HO250 := aS Q_HO250
    have BK247 := aS Q_BK247
    have HB := aS Q_HB
    refine value_ (w1 := w') (v := .bool (t253 == t254)) (by rfl) rfl ?_ ?_
    ·go_simp
     (try simp only [q0d])
     try rfl
    refine hK.out _ _ ⟨v256, v260, m9_, m12_, (by rw [ha.out]; exact q11 7 hb_ rfl rfl rfl), Q_HO250, Q_BK247, Q_HB, fun h0_ => absurd ((hoff 9 (by kernel_rfl)).symm.trans h0_) (by decide), fun h0_ => absurd ((hoff 11 (by kernel_rfl)).symm.trans h0_) (by decide), fun h0_ => absurd ((hoff 9 (by kernel_rfl)).symm.trans h0_) (by decide), fun h0_ => absurd ((hoff 12 (by kernel_rfl)).symm.trans h0_) (by decide)⟩
   refine q0z ?_ ?_
   ·rintro b a w' ⟨v256, v260, m9_, m12_, ha, Q_HO250, Q_BK247, Q_HB, Q_HO257, Q_HO261, Q_X9_, Q_X12_⟩ hb_ hon hoff
    refine ⟨_, rfl, fun K hK => ?_⟩
    have e12 : a.tmps[12]? = some (.bool (t253 == t254)) := by rw [ha]; exact q0q (e := (7, 12, .bool (t253 == t254))) 7 rfl rfl (hon 7 (by kernel_rfl)) rfl
    replace ha := aS ha
    have HO250 := aS Q_HO250
    have BK247 := aS Q_BK247
    have HB := aS Q_HB
    refine value_ (w1 := w') (v := .bool (t253 == t254)) (by rfl) rfl ?_ ?_
    ·go_simp
     (try simp only [q0d])
     try rfl
    refine hK.out _ _ ⟨v256, v260, m9_, m12_, (by rw [ha.out]; exact q11 8 hb_ rfl rfl rfl), Q_HO250, Q_BK247, Q_HB, fun h0_ => absurd ((hoff 9 (by kernel_rfl)).symm.trans h0_) (by decide), fun h0_ => absurd ((hoff 11 (by kernel_rfl)).symm.trans h0_) (by decide), fun h0_ => absurd ((hoff 9 (by kernel_rfl)).symm.trans h0_) (by decide), fun h0_ => absurd ((hoff 12 (by kernel_rfl)).symm.trans h0_) (by decide)⟩
   refine q0z ?_ ?_
   ·rintro b a w' ⟨v256, v260, m9_, m12_, ha, Q_HO250, Q_BK247, Q_HB, Q_HO257, Q_HO261, Q_X9_, Q_X12_⟩ hb_ hon hoff
    refine ⟨_, rfl, fun K hK => ?_⟩
    have e13 : a.tmps[13]? = some (.bool (t253 == t254)) := by rw [ha]; exact q0q (e := (8, 13, .bool (t253 == t254))) 8 rfl rfl (hon 8 (by kernel_rfl)) rfl
    replace ha := aS ha
    have HO250 := aS Q_HO250
    have BK247 := aS Q_BK247
    have HB := aS Q_HB
    refine goes_ Tryd.func54 (by kernel_rfl) rfl #[] (by first | rfl | exact q1m rfl rfl rfl (e13.trans (by first | rfl | (simp [*]; done)))) rfl rfl (by first | (simp only [List.map_toArray, List.map_cons, List.map_nil, Act.eval, Array.getD_eq_getD_getElem?, Option.getD_some, e13]; done) | (simp only [List.map_toArray, List.map_cons, List.map_nil, Act.eval, Array.getD_eq_getD_getElem?, Option.getD_some, e13]; rfl)) ?_
    with_reducible refine (dom_New.calls  t255 t258 _ A8.out).mono ?_
    rintro e w21 ⟨v256, rfl, ho0, hb⟩
    refine ⟨_, rfl, ?_⟩
    have n0_ := aS (Kd.V_elder' (by (with_reducible repeat (first | apply vA | apply vN | apply vD)); exact HO250.out) (Kd.S_base ho0) hb)
    have n1_ := aS (Kd.S_lower ho0 (q07 (by repeat (first | (with_reducible first | exact HB.out | apply bA | apply bN | apply bD | refine bS ?_ GE247.out) | exact HB.out))))
    have n2_ := aS (q04 (g := gb247) (o := .cells #[.slice Ao13 t248.length co13, .bool t251] 24 (0, 0)) (by (with_reducible repeat (first | refine kN ?_ _ | refine kD ?_ | refine kA ?_ _)); exact BK247.out) hb)
    have n3_ := aS (q01 (by repeat (first | (with_reducible first | exact HB.out | apply bA | apply bN | apply bD | refine bS ?_ GE247.out) | exact HB.out)) hb)
    have z_HO261 := fun (h0_ : b 11 = true) => (show Kd.S k43 43 w21 w.heap.size (fun _ => True) v260 y259 from by first | exact (Kd.S_elder' (by (with_reducible repeat (first | apply sA | apply sN | apply sD)); exact (Q_HO261 h0_)) (Kd.S_base ho0) hb) | exact Kd.S_mono (Kd.S_elder' (by (with_reducible repeat (first | apply sA | apply sN | apply sD)); exact (Q_HO261 h0_)) (Kd.S_base ho0) hb) (fun _ h_ => by first | trivial | exact h_ | exact h_.1))
    clear HO250
    clear BK247
    clear HB
    have HO250 := n0_
    have HO257 := n1_
    have BK247 := n2_
    have HB := n3_
    clear n0_ n1_ n2_ n3_
    (try clear hb)
    (try clear hb2)
    (try clear hk)
    (try clear hi)
    (try clear ho0)
    refine hK.out _ _ ⟨v256, v260, (.agg #[v256, .bool t258]), m12_, (by rw [ha.out]; exact q11 9 hb_ rfl rfl rfl), (by (with_reducible repeat (first | apply vA | apply vN | apply vD)); exact Kd.V_mono HO250.out (fun _ hk => by first | exact ⟨hk.2, hk.1⟩ | exact hk | exact hk.2 | exact hk.1)), (by (with_reducible repeat (first | refine kN ?_ _ | refine kD ?_ | refine kA ?_ _)); exact BK247.out), (by repeat (first | (with_reducible first | exact HB.out | apply bA | apply bN | apply bD | refine bS ?_ GE247.out) | exact HB.out)), fun _ => (by (with_reducible repeat (first | apply sA | apply sN | apply sD)); exact HO257.out), z_HO261, fun _ => rfl, Q_X12_⟩
   refine q0z ?_ ?_
   ·rintro b a w' ⟨v256, v260, m9_, m12_, ha, Q_HO250, Q_BK247, Q_HB, Q_HO257, Q_HO261, Q_X9_, Q_X12_⟩ hb_ hon hoff
    refine ⟨_, rfl, fun K hK => ?_⟩
    have e13 : a.tmps[13]? = some (.bool (t253 == t254)) := by rw [ha]; exact q0q (e := (8, 13, .bool (t253 == t254))) 8 rfl rfl (hon 8 (by kernel_rfl)) rfl
    replace ha := aS ha
    have HO250 := aS Q_HO250
    have BK247 := aS Q_BK247
    have HB := aS Q_HB
    refine value_ (w1 := w') (v := .agg #[.int .i64 1, .string (⟨#[]⟩ : ByteArray), .slice none 0 0, .string (⟨#[]⟩ : ByteArray), .int .i64 (-1), .slice none 0 0]) (q1m rfl rfl rfl (e13.trans (by first | rfl | (simp [*]; done)))) rfl ?_ ?_
    ·go_simp
     (try simp only [q0d])
     try rfl
    refine hK.out _ _ ⟨v256, v260, m9_, m12_, (by rw [ha.out]; exact q11 10 hb_ rfl rfl rfl), Q_HO250, Q_BK247, Q_HB, Q_HO257, fun h0_ => absurd ((hoff 11 (by kernel_rfl)).symm.trans h0_) (by decide), Q_X9_, fun h0_ => absurd ((hoff 12 (by kernel_rfl)).symm.trans h0_) (by decide)⟩
   refine q0z ?_ ?_
   ·rintro b a w' ⟨v256, v260, m9_, m12_, ha, Q_HO250, Q_BK247, Q_HB, Q_HO257, Q_HO261, Q_X9_, Q_X12_⟩ hb_ hon hoff
    refine ⟨_, rfl, fun K hK => ?_⟩
    have e15 : a.tmps[15]? = some (.agg #[.int .i64 1, .string (⟨#[]⟩ : ByteArray), .slice none 0 0, .string (⟨#[]⟩ : ByteArray), .int .i64 (-1), .slice none 0 0]) := by rw [ha]; exact q0q (e := (10, 15, .agg #[.int .i64 1, .string (⟨#[]⟩ : ByteArray), .slice none 0 0, .string (⟨#[]⟩ : ByteArray), .int .i64 (-1), .slice none 0 0])) 10 rfl rfl (hon 10 (by kernel_rfl)) rfl
    have e13 : a.tmps[13]? = some (.bool (t253 == t254)) := by rw [ha]; exact q0q (e := (8, 13, .bool (t253 == t254))) 8 rfl rfl (hon 8 (by kernel_rfl)) rfl
    replace ha := aS ha
    have HO250 := aS Q_HO250
    have BK247 := aS Q_BK247
    have HB := aS Q_HB
    refine Kd.S_lit_step k43 _ 43 ?hg (N := 16) ?hd (xs := ([(⟨1, (⟨#[]⟩ : ByteArray), ([] : List (S122)), (⟨#[]⟩ : ByteArray), (-1), ([] : List Int)⟩ : S43)] : List (S43))) (inner := [.int .i64 1, .string (⟨#[]⟩ : ByteArray), .slice none 0 0, .string (⟨#[]⟩ : ByteArray), .int .i64 (-1), .slice none 0 0]) (ok := fun _ => True) (okp := fun _ => True) ?hr ?hp (fun _ hk => hk) trivial (Below.refl _ _) (Nat.le_refl _) (by simp) ?_; (case hd => rfl); (case hg => first | rfl | exact q1m rfl rfl rfl (e13.trans (by first | rfl | (simp [*]; done)))); (case hr => first | (go_simp; done) | (go_simp; rfl)); (case hp => exact (Reps.c6 (show Kd.M k43 _ _ _ (⟨1, (⟨#[]⟩ : ByteArray), ([] : List (S122)), (⟨#[]⟩ : ByteArray), (-1), ([] : List Int)⟩ : S43) [.int .i64 1, .string (⟨#[]⟩ : ByteArray), .slice none 0 0, .string (⟨#[]⟩ : ByteArray), .int .i64 (-1), .slice none 0 0] from (k43_mkM _ _ _ (⟨1, (⟨#[]⟩ : ByteArray), ([] : List (S122)), (⟨#[]⟩ : ByteArray), (-1), ([] : List Int)⟩ : S43) (Kd.R_nil _ _ _ _ _) (Kd.R_nil _ _ _ _ _))) (Reps.none _ _)))
    intro v260 w21 ho22 hb hg_ hnew_
    clear hg_ hnew_
    (first | rw [← Ny259.out] at ho22 | (simp only [Int.reduceToNat] at ho22; rw [← Ny259.out] at ho22))
    have n0_ := aS (Kd.V_elder' (by (with_reducible repeat (first | apply vA | apply vN | apply vD)); exact HO250.out) (Kd.S_base ho22) hb)
    have n1_ := aS (Kd.S_lower ho22 (q07 (by repeat (first | (with_reducible first | exact HB.out | apply bA | apply bN | apply bD | refine bS ?_ GE247.out) | exact HB.out))))
    have n2_ := aS (q04 (g := gb247) (o := .cells #[.slice Ao13 t248.length co13, .bool t251] 24 (0, 0)) (by (with_reducible repeat (first | refine kN ?_ _ | refine kD ?_ | refine kA ?_ _)); exact BK247.out) hb)
    have n3_ := aS (q01 (by repeat (first | (with_reducible first | exact HB.out | apply bA | apply bN | apply bD | refine bS ?_ GE247.out) | exact HB.out)) hb)
    have z_HO257 := fun (h0_ : b 9 = true) => (show Kd.S k43 43 w21 w.heap.size (fun _ => True) v256 t255 from by first | exact (Kd.S_elder' (by (with_reducible repeat (first | apply sA | apply sN | apply sD)); exact (Q_HO257 h0_)) (Kd.S_base ho22) hb) | exact Kd.S_mono (Kd.S_elder' (by (with_reducible repeat (first | apply sA | apply sN | apply sD)); exact (Q_HO257 h0_)) (Kd.S_base ho22) hb) (fun _ h_ => by first | trivial | exact h_ | exact h_.1))
    clear HO250
    clear BK247
    clear HB
    have HO250 := n0_
    have HO261 := n1_
    have BK247 := n2_
    have HB := n3_
    clear n0_ n1_ n2_ n3_
    clear hb ho22
    obtain ⟨Ao23, co23, eo23⟩ := Kd.S_slice HO261.out
    (first | subst eo23 | (injection eo23 with f1_ f2_ f3_; have f4_ := f1_.symm; have f5_ := f3_.symm; clear f1_ f2_ f3_; subst f4_; subst f5_))
    refine hK.out _ _ ⟨v256, .slice Ao23 y259.length co23, m9_, m12_, (by rw [ha.out]; exact q11 11 hb_ rfl rfl rfl), (by (with_reducible repeat (first | apply vA | apply vN | apply vD)); exact Kd.V_mono HO250.out (fun _ hk => by first | exact ⟨hk.2, hk.1⟩ | exact hk | exact hk.2 | exact hk.1)), (by (with_reducible repeat (first | refine kN ?_ _ | refine kD ?_ | refine kA ?_ _)); exact BK247.out), (by repeat (first | (with_reducible first | exact HB.out | apply bA | apply bN | apply bD | refine bS ?_ GE247.out) | exact HB.out)), z_HO257, fun _ => (by (with_reducible repeat (first | apply sA | apply sN | apply sD)); exact HO261.out), Q_X9_, fun h0_ => absurd ((hoff 12 (by kernel_rfl)).symm.trans h0_) (by decide)⟩
   refine q0z ?_ ?_
   ·rintro b a w' ⟨v256, v260, m9_, m12_, ha, Q_HO250, Q_BK247, Q_HB, Q_HO257, Q_HO261, Q_X9_, Q_X12_⟩ hb_ hon hoff
    refine ⟨_, rfl, fun K hK => ?_⟩
    have e16 : a.tmps[16]? = some (v260) := by rw [ha]; exact q0q (e := (11, 16, v260)) 11 rfl rfl (hon 11 (by kernel_rfl)) rfl
    have e13 : a.tmps[13]? = some (.bool (t253 == t254)) := by rw [ha]; exact q0q (e := (8, 13, .bool (t253 == t254))) 8 rfl rfl (hon 8 (by kernel_rfl)) rfl
    replace ha := aS ha
    have HO250 := aS Q_HO250
    have BK247 := aS Q_BK247
    have HB := aS Q_HB
    have HO261 := aS (Q_HO261 (hon 11 (by kernel_rfl)))
    obtain ⟨Ao12_0, co12_0, eo_⟩ := Kd.S_slice HO261.out
    subst eo_
    refine value_ (w1 := w') (v := .agg #[.slice Ao12_0 y259.length co12_0, .bool false]) (q1m rfl rfl rfl (e13.trans (by first | rfl | (simp [*]; done)))) rfl ?_ ?_
    ·go_simp
     (try simp only [q0d])
     try rfl
    refine hK.out _ _ ⟨v256, .slice Ao12_0 y259.length co12_0, m9_, (.agg #[.slice Ao12_0 y259.length co12_0, .bool false]), (by rw [ha.out]; exact q11 12 hb_ rfl rfl rfl), Q_HO250, Q_BK247, Q_HB, Q_HO257, Q_HO261, Q_X9_, fun _ => rfl⟩
   refine q0z ?_ ?_
   ·rintro b a w' ⟨v256, v260, m9_, m12_, ha, Q_HO250, Q_BK247, Q_HB, Q_HO257, Q_HO261, Q_X9_, Q_X12_⟩ hb_ hon hoff
    refine ⟨_, rfl, fun K hK => ?_⟩
    have e14 : a.tmps[14]? = some (m9_) := by rw [ha]; exact q0q (e := (9, 14, m9_)) 9 rfl rfl (hon 9 (by kernel_rfl)) rfl
    rw [Q_X9_ (hon 9 (by kernel_rfl))] at e14
    have e17 : a.tmps[17]? = some (m12_) := by rw [ha]; exact q0q (e := (12, 17, m12_)) 12 rfl rfl (hon 12 (by kernel_rfl)) rfl
    rw [Q_X12_ (hon 12 (by kernel_rfl))] at e17
    have e13 : a.tmps[13]? = some (.bool (t253 == t254)) := by rw [ha]; exact q0q (e := (8, 13, .bool (t253 == t254))) 8 rfl rfl (hon 8 (by kernel_rfl)) rfl
    replace ha := aS ha
    have HO250 := aS Q_HO250
    have BK247 := aS Q_BK247
    have HB := aS Q_HB
    have HO257 := aS (Q_HO257 (hon 9 (by kernel_rfl)))
    have HO261 := aS (Q_HO261 (hon 11 (by kernel_rfl)))
    obtain ⟨Ao25, co25, eo25⟩ := Kd.S_slice HO261.out
    (first | subst eo25 | (injection eo25 with f1_ f2_ f3_; have f4_ := f1_.symm; have f5_ := f3_.symm; clear f1_ f2_ f3_; subst f4_; subst f5_))
    obtain ⟨Ao26, co26, eo26⟩ := Kd.S_slice HO257.out
    (first | subst eo26 | (injection eo26 with f1_ f2_ f3_; have f4_ := f1_.symm; have f5_ := f3_.symm; clear f1_ f2_ f3_; subst f4_; subst f5_))
    refine goes_ Tryd.func53 (by kernel_rfl) rfl #[.agg #[.slice Ao26 t255.length co26, .bool t258], .agg #[.slice Ao25 y259.length co25, .bool false]] (by first | rfl | exact q1m rfl rfl rfl (e13.trans (by first | rfl | (simp [*]; done)))) rfl rfl (by first | (simp only [List.map_toArray, List.map_cons, List.map_nil, Act.eval, Array.getD_eq_getD_getElem?, Option.getD_some, e14, e17, e13]; done) | (simp only [List.map_toArray, List.map_cons, List.map_nil, Act.eval, Array.getD_eq_getD_getElem?, Option.getD_some, e14, e17, e13]; rfl)) ?_
    with_reducible refine (clerestoryref1_SameDoc.calls k _ _ t255 t258 _ _ y259 false t262 _ ?side1 ?side2 ?side3 ?side4 A9.out).mono ?_
    (case side1 => repeat (first | exact (Kd.S_reads' HO257.out).2.2 | (with_reducible refine cA ?_ _) | (with_reducible refine cN ?_ _) | (with_reducible refine cD ?_)))
    (case side2 => exact (Kd.S_reads' HO257.out).2.1)
    (case side3 => repeat (first | exact (Kd.S_reads' HO261.out).2.2 | (with_reducible refine cA ?_ _) | (with_reducible refine cN ?_ _) | (with_reducible refine cD ?_)))
    (case side4 => exact (Kd.S_reads' HO261.out).2.1)
    rintro e w27 ⟨rfl, hb⟩
    refine ⟨_, rfl, ?_⟩
    have n0_ := aS (Kd.V_below (by (with_reducible repeat (first | apply vA | apply vN | apply vD)); exact HO250.out) hb)
    have n1_ := aS (Kd.S_below (by (with_reducible repeat (first | apply sA | apply sN | apply sD)); exact HO257.out) hb)
    have n2_ := aS (Kd.S_below (by (with_reducible repeat (first | apply sA | apply sN | apply sD)); exact HO261.out) hb)
    have n3_ := aS (q04 (g := gb247) (o := .cells #[.slice Ao13 t248.length co13, .bool t251] 24 (0, 0)) (by (with_reducible repeat (first | refine kN ?_ _ | refine kD ?_ | refine kA ?_ _)); exact BK247.out) hb)
    have n4_ := aS (q01 (by repeat (first | (with_reducible first | exact HB.out | apply bA | apply bN | apply bD | refine bS ?_ GE247.out) | exact HB.out)) hb)
    clear HO250
    clear HO257
    clear HO261
    clear BK247
    clear HB
    have HO250 := n0_
    have HO257 := n1_
    have HO261 := n2_
    have BK247 := n3_
    have HB := n4_
    clear n0_ n1_ n2_ n3_ n4_
    (try clear hb)
    (try clear hb2)
    (try clear hk)
    (try clear hi)
    refine hK.out _ _ ⟨.slice Ao26 t255.length co26, .slice Ao25 y259.length co25, m9_, m12_, (by rw [ha.out]; exact q11 13 hb_ rfl rfl rfl), (by (with_reducible repeat (first | apply vA | apply vN | apply vD)); exact HO250.out), (by (with_reducible repeat (first | refine kN ?_ _ | refine kD ?_ | refine kA ?_ _)); exact BK247.out), (by repeat (first | (with_reducible first | exact HB.out | apply bA | apply bN | apply bD | refine bS ?_ GE247.out) | exact HB.out)), fun _ => (by (with_reducible repeat (first | apply sA | apply sN | apply sD)); exact HO257.out), fun _ => (by (with_reducible repeat (first | apply sA | apply sN | apply sD)); exact HO261.out), Q_X9_, Q_X12_⟩
   refine q0z ?_ ?_
   ·rintro b a w' ⟨v256, v260, m9_, m12_, ha, Q_HO250, Q_BK247, Q_HB, Q_HO257, Q_HO261, Q_X9_, Q_X12_⟩ hb_ hon hoff
    refine ⟨_, rfl, fun K hK => ?_⟩
    have e13 : a.tmps[13]? = some (.bool (t253 == t254)) := by rw [ha]; exact q0q (e := (8, 13, .bool (t253 == t254))) 8 rfl rfl (hon 8 (by kernel_rfl)) rfl
    have e18 : a.tmps[18]? = some (.bool t262) := by rw [ha]; exact q0q (e := (13, 18, .bool t262)) 13 rfl rfl (hon 13 (by kernel_rfl)) rfl
    replace ha := aS ha
    have HO250 := aS Q_HO250
    have BK247 := aS Q_BK247
    have HB := aS Q_HB
    have HO257 := aS (Q_HO257 (hon 9 (by kernel_rfl)))
    have HO261 := aS (Q_HO261 (hon 11 (by kernel_rfl)))
    refine value_ (w1 := w') (v := .bool t262) (by rfl) rfl ?_ ?_
    ·go_simp
     (try simp only [q0d])
     try rfl
    refine hK.out _ _ ⟨v256, v260, m9_, m12_, (by rw [ha.out]; exact q11 14 hb_ rfl rfl rfl), Q_HO250, Q_BK247, Q_HB, Q_HO257, Q_HO261, Q_X9_, Q_X12_⟩
   refine q0z ?_ ?_
   ·rintro b a w' ⟨v256, v260, m9_, m12_, ha, Q_HO250, Q_BK247, Q_HB, Q_HO257, Q_HO261, Q_X9_, Q_X12_⟩ hb_ hon hoff
    refine ⟨_, rfl, fun K hK => ?_⟩
    have e19 : a.tmps[19]? = some (.bool t262) := by rw [ha]; exact q0q (e := (14, 19, .bool t262)) 14 rfl rfl (hon 14 (by kernel_rfl)) rfl
    replace ha := aS ha
    have HO250 := aS Q_HO250
    have BK247 := aS Q_BK247
    have HB := aS Q_HB
    have HO257 := aS (Q_HO257 (hon 9 (by kernel_rfl)))
    have HO261 := aS (Q_HO261 (hon 11 (by kernel_rfl)))
    refine value_ (w1 := w') (v := .bool t262) (by rfl) rfl ?_ ?_
    ·go_simp
     (try simp only [q0d])
     try rfl
    refine hK.out _ _ ⟨v256, v260, m9_, m12_, (by rw [ha.out]; exact q11 15 hb_ rfl rfl rfl), Q_HO250, Q_BK247, Q_HB, Q_HO257, Q_HO261, Q_X9_, Q_X12_⟩
   exact steps_nil
  rintro b a w26 hall ⟨v256, v260, m9_, m12_, ha, Q_HO250, Q_BK247, Q_HB, Q_HO257, Q_HO261, Q_X9_, Q_X12_⟩
  clear BK247 HB HO250
  have hb0_ := hall 0 (by kernel_rfl)
  have hb1_ := hall 1 (by kernel_rfl)
  have hb2_ := hall 2 (by kernel_rfl)
  have hb3_ := hall 3 (by kernel_rfl)
  have hb4_ := hall 4 (by kernel_rfl)
  have hb5_ := hall 5 (by kernel_rfl)
  have hb6_ := hall 6 (by kernel_rfl)
  have hb7_ := hall 7 (by kernel_rfl)
  have hb8_ := hall 8 (by kernel_rfl)
  have hb9_ := hall 9 (by kernel_rfl)
  have hb10_ := hall 10 (by kernel_rfl)
  have hb11_ := hall 11 (by kernel_rfl)
  have hb12_ := hall 12 (by kernel_rfl)
  have hb13_ := hall 13 (by kernel_rfl)
  have hb14_ := hall 14 (by kernel_rfl)
  have hb15_ := hall 15 (by kernel_rfl)
  subst ha
  obtain rfl := Q_X9_ hb9_
  obtain rfl := Q_X12_ hb12_
  simp only [q1n, hb0_, hb1_, hb2_, hb3_, hb4_, hb5_, hb6_, hb7_, hb8_, hb9_, hb10_, hb11_, hb12_, hb13_, hb14_, hb15_, if_true, Act.put, List.setIfInBounds_toArray, List.set_cons_zero, List.set_cons_succ]
  have HO250 := aS Q_HO250
  clear Q_HO250
  have BK247 := aS Q_BK247
  clear Q_BK247
  have HB := aS Q_HB
  clear Q_HB
  have HO257 := aS (Q_HO257 hb9_)
  clear Q_HO257
  have HO261 := aS (Q_HO261 hb11_)
  clear Q_HO261
  clear hall hb0_ hb1_ hb2_ hb3_ hb4_ hb5_ hb6_ hb7_ hb8_ hb9_ hb10_ hb11_ hb12_ hb13_ hb14_ hb15_
  obtain ⟨Ao27, co27, eo27⟩ := Kd.S_slice HO261.out
  (first | subst eo27 | (injection eo27 with f1_ f2_ f3_; have f4_ := f1_.symm; have f5_ := f3_.symm; clear f1_ f2_ f3_; subst f4_; subst f5_))
  try go_wp2
  go_ret
  exact ⟨by first | rfl | (simp [q03, q02] <;> rfl) | (simp [*, q03, q02] <;> rfl), by repeat (first | (with_reducible first | exact HB.out | apply bA | apply bN | apply bD | refine bS ?_ GE247.out) | exact HB.out)⟩
 case n7 =>
  obtain rfl := Option.some.inj H
  go_enter Tryd.func10, Tryd.ntmps10
  try go_wp2_with (first | ((with_reducible refine q06 (N := 1) rfl ?_); (try (refine q0k (by rfl) ?_; dsimp only)); refine box0 rfl (N := 1) rfl (cs := #[.slice A0_0 l0_0.length c0_0, .bool a0_1]) (t := 24) (by first | (go_simp; done) | (go_simp; rfl)) (by repeat (first | (with_reducible first | exact HB.out | apply bA | apply bN | apply bD) | exact HB.out)) ?_; clear HB; intro gb247 w28 BK247 GW247 HB; have GE247 := GW247; obtain ⟨hczL_0, hczL_1, hfzL_0, hfzL_1⟩ := bk2 BK247.out) | ((with_reducible refine q09 (f := 15) rfl ?_); refine q0n (some 4) rfl rfl Tryd.func15 (by kernel_rfl) rfl #[.agg #[.slice A0_0 l0_0.length c0_0, .bool a0_1], .int .i64 210] rfl (by (try simp only [List.map_toArray, List.map_cons, List.map_nil]); first | done | rfl | (simp only [List.length_drop, List.length_take]; rfl)) ?_; (with_reducible refine (clerestorylaw1_few.calls (fun k_ => k_ < w.heap.size) _ _ l0_0 a0_1 210 t248 t251 _ ?side1 A2.out).mono ?_); (case side1 => exact Kd.V_mk HC0_0.out (Kd.F_below (Kd.C_F k43_heap HR0_0.out) (by repeat (first | (with_reducible first | exact HB.out | apply bA | apply bN | apply bD | refine bS ?_ GE247.out) | exact HB.out)))); rintro e w30 ⟨v249, rfl, ho0, hb⟩; refine ⟨_, rfl, ?_⟩; have HO250 := aS (Kd.V_lower (Kd.V_mono (ok' := fun k_ => k_ ≠ gb247) ho0 (fun k_ hk_ => Or.elim hk_ (fun hs_ => fun e_ => Nat.not_le.2 hs_ (by rw [e_]; exact GW247.out)) (fun hn_ => (Kd.freshB (g := gb247) (o := .cells #[.slice A0_0 l0_0.length c0_0, .bool a0_1] 24 (0, 0)) (by (with_reducible repeat (first | refine kN ?_ _ | refine kD ?_ | refine kA ?_ _)); exact BK247.out) k_ hn_)))) (q07 (by repeat (first | (with_reducible first | exact HB.out | apply bA | apply bN | apply bD | refine bS ?_ GE247.out) | exact HB.out)))); replace BK247 := aS (q04 (g := gb247) (o := .cells #[.slice A0_0 l0_0.length c0_0, .bool a0_1] 24 (0, 0)) (by (with_reducible repeat (first | refine kN ?_ _ | refine kD ?_ | refine kA ?_ _)); exact BK247.out) hb); replace HB := aS (q01 (by repeat (first | (with_reducible first | exact HB.out | apply bA | apply bN | apply bD | refine bS ?_ GE247.out) | exact HB.out)) hb); (try clear hb); (try clear hb2); (try clear hk); (try clear hi); (try clear ho0); obtain ⟨Ao31, co31, eo31⟩ := Kd.V_slice HO250.out; subst eo31; obtain ⟨hczL_0, hczL_1, hfzL_0, hfzL_1⟩ := bk2 BK247.out))
  have n0_ : Aside0 (Kd.V k43 43 ((w30.setCell ⟨gb247, 0, none⟩ (.slice Ao31 t248.length co31)).setCell ⟨gb247, 1, none⟩ (.bool t251)) w.heap.size (fun k_ => k_ ≠ gb247) (.slice Ao31 t248.length co31) t248) := ⟨by (with_reducible repeat (first | apply vA | apply vN | apply vD)); exact Kd.V_mono (Kd.V_far (p := ⟨gb247, 1, none⟩) (Kd.V_far (p := ⟨gb247, 0, none⟩) (Kd.V_mono HO250.out (fun k_ hk => (⟨hk, hk⟩ : _ ∧ k_ ≠ gb247))) (fun _ hk => hk.2) (.slice Ao31 t248.length co31)) (fun _ hk => hk.2) (.bool t251)) (fun _ hk => hk.1)⟩
  have n1_ : Aside0 (((w30.setCell ⟨gb247, 0, none⟩ (.slice Ao31 t248.length co31)).setCell ⟨gb247, 1, none⟩ (.bool t251)).heap[gb247]? = some (.cells #[.slice Ao31 t248.length co31, .bool t251] 24 (0, 0))) := ⟨by (with_reducible repeat (first | refine kN ?_ _ | refine kD ?_ | refine kA ?_ _)); refine q0g (cs := #[.slice Ao31 t248.length co31, .bool a0_1]) ?_ 1 _ rfl; (with_reducible repeat (first | refine kN ?_ _ | refine kD ?_ | refine kA ?_ _)); refine q0g (cs := #[.slice A0_0 l0_0.length c0_0, .bool a0_1]) ?_ 0 _ rfl; (with_reducible repeat (first | refine kN ?_ _ | refine kD ?_ | refine kA ?_ _)); exact BK247.out⟩
  have n2_ : Aside0 (Below w.heap.size w ((w30.setCell ⟨gb247, 0, none⟩ (.slice Ao31 t248.length co31)).setCell ⟨gb247, 1, none⟩ (.bool t251))) := ⟨by repeat (first | (with_reducible first | exact HB.out | apply bA | apply bN | apply bD | refine bS ?_ GE247.out) | exact HB.out)⟩
  (try clear HO250)
  (try clear BK247)
  (try clear HB)
  generalize ((w30.setCell ⟨gb247, 0, none⟩ (.slice Ao31 t248.length co31)).setCell ⟨gb247, 1, none⟩ (.bool t251)) = w33 at n0_ n1_ n2_ ⊢
  have HO250 := n0_
  have BK247 := n1_
  have HB := n2_
  clear n0_ n1_ n2_
  have n0_ := aS (Kd.V_drew HO250.out)
  have n1_ := aS (q18 BK247.out)
  have n2_ := aS (q1k HB.out)
  clear HO250
  clear BK247
  clear HB
  have HO250 := n0_
  have BK247 := n1_
  have HB := n2_
  clear n0_ n1_ n2_
  refine start_ (n := 16) (S := fun w' => w'.cell? ⟨gb247, 0, none⟩ = some (.slice Ao31 t248.length co31) ∧ w'.cell? ⟨gb247, 1, none⟩ = some (.bool t251)) (ds := []) #[false, false, false, false, false, false, false, false, false, false, false, false, false, false, false, false] (by kernel_rfl) rfl rfl ⟨(q05 BK247.out 0).trans rfl, (q05 BK247.out 1).trans rfl⟩ (fun hHeld => ?_); refine with_tabW clerestorylaw1_DomChecks.tab2 clerestorylaw1_DomChecks.bits2 (fun HT_ HW_ => ?_)
  generalize w33.drew = w34 at HO250 BK247 HB hHeld ⊢
  refine one_ (i := 0) (N := some 5) #[true, false, false, false, false, false, false, false, false, false, false, false, false, false, false, false] rfl rfl (one_of HT_.out (by kernel_rfl)) (by decide) (fun K hK => ?_)
  refine goes_ Tryd.func51 (by kernel_rfl) rfl #[] (by rfl) rfl rfl (by (try simp only [List.map_toArray, List.map_cons, List.map_nil]); first | done | rfl | (simp only [List.length_drop, List.length_take]; rfl)) ?_
  with_reducible refine (clerestorylaw1_domBegun.calls k  true _ A3.out).mono ?_
  rintro e w35 ⟨rfl, hb⟩
  refine ⟨_, rfl, ?_⟩
  have n0_ := aS (Kd.V_below (by (with_reducible repeat (first | apply vA | apply vN | apply vD)); exact HO250.out) hb)
  have n1_ := aS (q04 (g := gb247) (o := .cells #[.slice Ao31 t248.length co31, .bool t251] 24 (0, 0)) (by (with_reducible repeat (first | refine kN ?_ _ | refine kD ?_ | refine kA ?_ _)); exact BK247.out) hb)
  have n2_ := aS (q01 (by repeat (first | (with_reducible first | exact HB.out | apply bA | apply bN | apply bD | refine bS ?_ GE247.out) | exact HB.out)) hb)
  clear HO250
  clear BK247
  clear HB
  have HO250 := n0_
  have BK247 := n1_
  have HB := n2_
  clear n0_ n1_ n2_
  (try clear hb)
  (try clear hb2)
  (try clear hk)
  (try clear hi)
  refine hK.out _ _ ⟨(q05 BK247.out 0).trans rfl, (q05 BK247.out 1).trans rfl⟩ (fun hHeld => ?_)
  clear hK K
  refine norm_ (a' := ?_) ?_ ?_
  rotate_left
  ·show Act.put _ (some 5) _ = _
   simp only [Act.put, s1, s2, s3, q0d, q0e]
   rfl
  refine q0m (i := 1) (N := some 6) (v := ?_) (a' := ?_) #[true, true, false, false, false, false, false, false, false, false, false, false, false, false, false, false] rfl rfl (q0r HT_.out (by kernel_rfl)) (fun _ _ _ h => h) (Or.inl ⟨by rfl, ?_⟩) ?_ ?_
  rotate_left
  ·intro w'
   go_simp
   with_reducible rfl
  rotate_left
  ·simp only [Act.put, s1, s2, s3, q0d, q0e]
   rfl
  refine take_ (i := 2) (N := some 7) (v := ?_) (a' := ?_) #[true, true, true, false, false, false, false, false, false, false, false, false, false, false, false, false] rfl rfl (q1p HT_.out HW_.out (by kernel_rfl)) (fun _ _ _ h => h) (Or.inl ⟨by rfl, ?_⟩) hHeld ?_ ?_
  rotate_left
  ·rintro w' ⟨s0, s1⟩
   go_simp
   with_reducible rfl
  rotate_left
  ·simp only [Act.put, s1, s2, s3, q0d, q0e]
   rfl
  refine take_ (i := 4) (N := some 9) (v := ?_) (a' := ?_) #[true, true, true, false, true, false, false, false, false, false, false, false, false, false, false, false] rfl rfl (q1p HT_.out HW_.out (by kernel_rfl)) (fun _ _ _ h => h) (Or.inl ⟨by rfl, ?_⟩) hHeld ?_ ?_
  rotate_left
  ·rintro w' ⟨s0, s1⟩
   go_simp
   with_reducible rfl
  rotate_left
  ·simp only [Act.put, s1, s2, s3, q0d, q0e]
   rfl
  refine one_ (i := 3) (N := some 8) #[true, true, true, true, true, false, false, false, false, false, false, false, false, false, false, false] rfl rfl (one_of HT_.out (by kernel_rfl)) (by decide) (fun K hK => ?_)
  refine goes_ Tryd.func52 (by kernel_rfl) rfl #[.agg #[.slice Ao31 t248.length co31, .bool t251]] (by rfl) rfl rfl (by (try simp only [List.map_toArray, List.map_cons, List.map_nil]); first | done | rfl | (simp only [List.length_drop, List.length_take]; rfl)) ?_
  with_reducible refine (dom_Check.calls k _ _ t248 t251 t253 _ ?side1 ?side2 A5.out).mono ?_
  (case side1 => repeat (first | exact (Kd.V_reads' HO250.out).2.2 | (with_reducible refine cA ?_ _) | (with_reducible refine cN ?_ _) | (with_reducible refine cD ?_)))
  (case side2 => exact (Kd.V_reads' HO250.out).2.1)
  rintro e w36 ⟨rfl, hb⟩
  refine ⟨_, rfl, ?_⟩
  have n0_ := aS (Kd.V_below (by (with_reducible repeat (first | apply vA | apply vN | apply vD)); exact HO250.out) hb)
  have n1_ := aS (q04 (g := gb247) (o := .cells #[.slice Ao31 t248.length co31, .bool t251] 24 (0, 0)) (by (with_reducible repeat (first | refine kN ?_ _ | refine kD ?_ | refine kA ?_ _)); exact BK247.out) hb)
  have n2_ := aS (q01 (by repeat (first | (with_reducible first | exact HB.out | apply bA | apply bN | apply bD | refine bS ?_ GE247.out) | exact HB.out)) hb)
  clear HO250
  clear BK247
  clear HB
  have HO250 := n0_
  have BK247 := n1_
  have HB := n2_
  clear n0_ n1_ n2_
  (try clear hb)
  (try clear hb2)
  (try clear hk)
  (try clear hi)
  refine hK.out _ _ ⟨(q05 BK247.out 0).trans rfl, (q05 BK247.out 1).trans rfl⟩ (fun hHeld => ?_)
  clear hK K
  refine norm_ (a' := ?_) ?_ ?_
  rotate_left
  ·show Act.put _ (some 8) _ = _
   simp only [Act.put, s1, s2, s3, q0d, q0e]
   rfl
  refine one_ (i := 5) (N := some 10) #[true, true, true, true, true, true, false, false, false, false, false, false, false, false, false, false] rfl rfl (one_of HT_.out (by kernel_rfl)) (by decide) (fun K hK => ?_)
  refine goes_ Tryd.func17 (by kernel_rfl) rfl #[.agg #[.slice Ao31 t248.length co31, .bool t251]] (by rfl) rfl rfl (by (try simp only [List.map_toArray, List.map_cons, List.map_nil]); first | done | rfl | (simp only [List.length_drop, List.length_take]; rfl)) ?_
  with_reducible refine (clerestoryref1_DocErr.calls k _ _ t248 t251 t254 _ ?side1 ?side2 A6.out).mono ?_
  (case side1 => repeat (first | exact (Kd.V_reads' HO250.out).2.2 | (with_reducible refine cA ?_ _) | (with_reducible refine cN ?_ _) | (with_reducible refine cD ?_)))
  (case side2 => exact (Kd.V_reads' HO250.out).2.1)
  rintro e w37 ⟨rfl, hb⟩
  refine ⟨_, rfl, ?_⟩
  have n0_ := aS (Kd.V_below (by (with_reducible repeat (first | apply vA | apply vN | apply vD)); exact HO250.out) hb)
  have n1_ := aS (q04 (g := gb247) (o := .cells #[.slice Ao31 t248.length co31, .bool t251] 24 (0, 0)) (by (with_reducible repeat (first | refine kN ?_ _ | refine kD ?_ | refine kA ?_ _)); exact BK247.out) hb)
  have n2_ := aS (q01 (by repeat (first | (with_reducible first | exact HB.out | apply bA | apply bN | apply bD | refine bS ?_ GE247.out) | exact HB.out)) hb)
  clear HO250
  clear BK247
  clear HB
  have HO250 := n0_
  have BK247 := n1_
  have HB := n2_
  clear n0_ n1_ n2_
  (try clear hb)
  (try clear hb2)
  (try clear hk)
  (try clear hi)
  refine hK.out _ _ ⟨(q05 BK247.out 0).trans rfl, (q05 BK247.out 1).trans rfl⟩ (fun hHeld => ?_)
  clear hK K
  refine norm_ (a' := ?_) ?_ ?_
  rotate_left
  ·show Act.put _ (some 10) _ = _
   simp only [Act.put, s1, s2, s3, q0d, q0e]
   rfl
  refine q0m (i := 6) (N := some 11) (v := ?_) (a' := ?_) #[true, true, true, true, true, true, true, false, false, false, false, false, false, false, false, false] rfl rfl (q0r HT_.out (by kernel_rfl)) (fun _ _ _ h => h) (Or.inl ⟨by rfl, ?_⟩) ?_ ?_
  rotate_left
  ·intro w'
   go_simp
   with_reducible rfl
  rotate_left
  ·simp only [Act.put, s1, s2, s3, q0d, q0e]
   rfl
  refine q0m (i := 7) (N := some 12) (v := ?_) (a' := ?_) #[true, true, true, true, true, true, true, true, false, false, false, false, false, false, false, false] rfl rfl (q0r HT_.out (by kernel_rfl)) (fun _ _ _ h => h) (Or.inl ⟨by rfl, ?_⟩) ?_ ?_
  rotate_left
  ·intro w'
   go_simp
   with_reducible rfl
  rotate_left
  ·simp only [Act.put, s1, s2, s3, q0d, q0e]
   rfl
  refine q0m (i := 8) (N := some 13) (v := ?_) (a' := ?_) #[true, true, true, true, true, true, true, true, true, false, false, false, false, false, false, false] rfl rfl (q0r HT_.out (by kernel_rfl)) (fun _ _ _ h => h) (Or.inl ⟨by rfl, ?_⟩) ?_ ?_
  rotate_left
  ·intro w'
   go_simp
   with_reducible rfl
  rotate_left
  ·simp only [Act.put, s1, s2, s3, q0d, q0e]
   rfl
  refine q0m (i := 9) (N := some 14) (v := undef) (a' := ?_) #[true, true, true, true, true, true, true, true, true, true, false, false, false, false, false, false] rfl rfl (q0r HT_.out (by kernel_rfl)) (fun _ _ _ h => h) (Or.inr ⟨by rfl, rfl⟩) ?_ ?_
  rotate_left
  ·simp only [Act.put, s1, s2, s3, q0d, q0e]
   rfl
  refine q0m (i := 10) (N := some 15) (v := undef) (a' := ?_) #[true, true, true, true, true, true, true, true, true, true, true, false, false, false, false, false] rfl rfl (q0r HT_.out (by kernel_rfl)) (fun _ _ _ h => h) (Or.inr ⟨by rfl, rfl⟩) ?_ ?_
  rotate_left
  ·simp only [Act.put, s1, s2, s3, q0d, q0e]
   rfl
  refine q0m (i := 11) (N := some 16) (v := undef) (a' := ?_) #[true, true, true, true, true, true, true, true, true, true, true, true, false, false, false, false] rfl rfl (q0r HT_.out (by kernel_rfl)) (fun _ _ _ h => h) (Or.inr ⟨by rfl, rfl⟩) ?_ ?_
  rotate_left
  ·simp only [Act.put, s1, s2, s3, q0d, q0e]
   rfl
  refine q0m (i := 12) (N := some 17) (v := undef) (a' := ?_) #[true, true, true, true, true, true, true, true, true, true, true, true, true, false, false, false] rfl rfl (q0r HT_.out (by kernel_rfl)) (fun _ _ _ h => h) (Or.inr ⟨by rfl, rfl⟩) ?_ ?_
  rotate_left
  ·simp only [Act.put, s1, s2, s3, q0d, q0e]
   rfl
  refine q0m (i := 13) (N := some 18) (v := undef) (a' := ?_) #[true, true, true, true, true, true, true, true, true, true, true, true, true, true, false, false] rfl rfl (q0r HT_.out (by kernel_rfl)) (fun _ _ _ h => h) (Or.inr ⟨by rfl, rfl⟩) ?_ ?_
  rotate_left
  ·simp only [Act.put, s1, s2, s3, q0d, q0e]
   rfl
  refine q0m (i := 14) (N := some 19) (v := ?_) (a' := ?_) #[true, true, true, true, true, true, true, true, true, true, true, true, true, true, true, false] rfl rfl (q0r HT_.out (by kernel_rfl)) (fun _ _ _ h => h) (Or.inl ⟨by rfl, ?_⟩) ?_ ?_
  rotate_left
  ·intro w'
   go_simp
   with_reducible rfl
  rotate_left
  ·simp only [Act.put, s1, s2, s3, q0d, q0e]
   rfl
  refine q0m (i := 15) (N := some 2) (v := ?_) (a' := ?_) #[true, true, true, true, true, true, true, true, true, true, true, true, true, true, true, true] rfl rfl (q0r HT_.out (by kernel_rfl)) (fun _ _ _ h => h) (Or.inl ⟨by rfl, ?_⟩) ?_ ?_
  rotate_left
  ·intro w'
   go_simp
   with_reducible rfl
  rotate_left
  ·simp only [Act.put, s1, s2, s3, q0d, q0e]
   rfl
  refine done_ (done_of HT_.out (by kernel_rfl)) ?_
  try go_wp2
  go_ret
  exact ⟨by first | rfl | (simp [q03, q02] <;> rfl) | (simp [*, q03, q02] <;> rfl), by repeat (first | (with_reducible first | exact HB.out | apply bA | apply bN | apply bD | refine bS ?_ GE247.out) | exact HB.out)⟩
 case n4 =>
  obtain rfl := Option.some.inj H
  go_enter Tryd.func10, Tryd.ntmps10
  try go_wp2_with (first | ((with_reducible refine q06 (N := 1) rfl ?_); (try (refine q0k (by rfl) ?_; dsimp only)); refine box0 rfl (N := 1) rfl (cs := #[.slice A0_0 l0_0.length c0_0, .bool a0_1]) (t := 24) (by first | (go_simp; done) | (go_simp; rfl)) (by repeat (first | (with_reducible first | exact HB.out | apply bA | apply bN | apply bD) | exact HB.out)) ?_; clear HB; intro gb247 w38 BK247 GW247 HB; have GE247 := GW247; obtain ⟨hczL_0, hczL_1, hfzL_0, hfzL_1⟩ := bk2 BK247.out) | ((with_reducible refine q09 (f := 15) rfl ?_); refine q0n (some 4) rfl rfl Tryd.func15 (by kernel_rfl) rfl #[.agg #[.slice A0_0 l0_0.length c0_0, .bool a0_1], .int .i64 210] rfl (by (try simp only [List.map_toArray, List.map_cons, List.map_nil]); first | done | rfl | (simp only [List.length_drop, List.length_take]; rfl)) ?_; (with_reducible refine (clerestorylaw1_few.calls (fun k_ => k_ < w.heap.size) _ _ l0_0 a0_1 210 t248 t251 _ ?side1 A2.out).mono ?_); (case side1 => exact Kd.V_mk HC0_0.out (Kd.F_below (Kd.C_F k43_heap HR0_0.out) (by repeat (first | (with_reducible first | exact HB.out | apply bA | apply bN | apply bD | refine bS ?_ GE247.out) | exact HB.out)))); rintro e w40 ⟨v249, rfl, ho0, hb⟩; refine ⟨_, rfl, ?_⟩; have HO250 := aS (Kd.V_lower (Kd.V_mono (ok' := fun k_ => k_ ≠ gb247) ho0 (fun k_ hk_ => Or.elim hk_ (fun hs_ => fun e_ => Nat.not_le.2 hs_ (by rw [e_]; exact GW247.out)) (fun hn_ => (Kd.freshB (g := gb247) (o := .cells #[.slice A0_0 l0_0.length c0_0, .bool a0_1] 24 (0, 0)) (by (with_reducible repeat (first | refine kN ?_ _ | refine kD ?_ | refine kA ?_ _)); exact BK247.out) k_ hn_)))) (q07 (by repeat (first | (with_reducible first | exact HB.out | apply bA | apply bN | apply bD | refine bS ?_ GE247.out) | exact HB.out)))); replace BK247 := aS (q04 (g := gb247) (o := .cells #[.slice A0_0 l0_0.length c0_0, .bool a0_1] 24 (0, 0)) (by (with_reducible repeat (first | refine kN ?_ _ | refine kD ?_ | refine kA ?_ _)); exact BK247.out) hb); replace HB := aS (q01 (by repeat (first | (with_reducible first | exact HB.out | apply bA | apply bN | apply bD | refine bS ?_ GE247.out) | exact HB.out)) hb); (try clear hb); (try clear hb2); (try clear hk); (try clear hi); (try clear ho0); obtain ⟨Ao41, co41, eo41⟩ := Kd.V_slice HO250.out; subst eo41; obtain ⟨hczL_0, hczL_1, hfzL_0, hfzL_1⟩ := bk2 BK247.out))
  have n0_ : Aside0 (Kd.V k43 43 ((w40.setCell ⟨gb247, 0, none⟩ (.slice Ao41 t248.length co41)).setCell ⟨gb247, 1, none⟩ (.bool t251)) w.heap.size (fun k_ => k_ ≠ gb247) (.slice Ao41 t248.length co41) t248) := ⟨by (with_reducible repeat (first | apply vA | apply vN | apply vD)); exact Kd.V_mono (Kd.V_far (p := ⟨gb247, 1, none⟩) (Kd.V_far (p := ⟨gb247, 0, none⟩) (Kd.V_mono HO250.out (fun k_ hk => (⟨hk, hk⟩ : _ ∧ k_ ≠ gb247))) (fun _ hk => hk.2) (.slice Ao41 t248.length co41)) (fun _ hk => hk.2) (.bool t251)) (fun _ hk => hk.1)⟩
  have n1_ : Aside0 (((w40.setCell ⟨gb247, 0, none⟩ (.slice Ao41 t248.length co41)).setCell ⟨gb247, 1, none⟩ (.bool t251)).heap[gb247]? = some (.cells #[.slice Ao41 t248.length co41, .bool t251] 24 (0, 0))) := ⟨by (with_reducible repeat (first | refine kN ?_ _ | refine kD ?_ | refine kA ?_ _)); refine q0g (cs := #[.slice Ao41 t248.length co41, .bool a0_1]) ?_ 1 _ rfl; (with_reducible repeat (first | refine kN ?_ _ | refine kD ?_ | refine kA ?_ _)); refine q0g (cs := #[.slice A0_0 l0_0.length c0_0, .bool a0_1]) ?_ 0 _ rfl; (with_reducible repeat (first | refine kN ?_ _ | refine kD ?_ | refine kA ?_ _)); exact BK247.out⟩
  have n2_ : Aside0 (Below w.heap.size w ((w40.setCell ⟨gb247, 0, none⟩ (.slice Ao41 t248.length co41)).setCell ⟨gb247, 1, none⟩ (.bool t251))) := ⟨by repeat (first | (with_reducible first | exact HB.out | apply bA | apply bN | apply bD | refine bS ?_ GE247.out) | exact HB.out)⟩
  (try clear HO250)
  (try clear BK247)
  (try clear HB)
  generalize ((w40.setCell ⟨gb247, 0, none⟩ (.slice Ao41 t248.length co41)).setCell ⟨gb247, 1, none⟩ (.bool t251)) = w43 at n0_ n1_ n2_ ⊢
  have HO250 := n0_
  have BK247 := n1_
  have HB := n2_
  clear n0_ n1_ n2_
  have n0_ := aS (Kd.V_drew HO250.out)
  have n1_ := aS (q18 BK247.out)
  have n2_ := aS (q1k HB.out)
  clear HO250
  clear BK247
  clear HB
  have HO250 := n0_
  have BK247 := n1_
  have HB := n2_
  clear n0_ n1_ n2_
  refine start_ (n := 16) (S := fun w' => True) (ds := []) #[false, false, false, false, false, false, false, false, false, false, false, false, false, false, false, false] (by kernel_rfl) rfl rfl trivial (fun hHeld => ?_); refine with_tabW clerestorylaw1_DomChecks.tab2 clerestorylaw1_DomChecks.bits2 (fun HT_ HW_ => ?_)
  generalize w43.drew = w44 at HO250 BK247 HB hHeld ⊢
  refine one_ (i := 0) (N := some 5) #[true, false, false, false, false, false, false, false, false, false, false, false, false, false, false, false] rfl rfl (one_of HT_.out (by kernel_rfl)) (by decide) (fun K hK => ?_)
  refine goes_ Tryd.func51 (by kernel_rfl) rfl #[] (by rfl) rfl rfl (by (try simp only [List.map_toArray, List.map_cons, List.map_nil]); first | done | rfl | (simp only [List.length_drop, List.length_take]; rfl)) ?_
  with_reducible refine (clerestorylaw1_domBegun.calls k  false _ A3.out).mono ?_
  rintro e w45 ⟨rfl, hb⟩
  refine ⟨_, rfl, ?_⟩
  have n0_ := aS (Kd.V_below (by (with_reducible repeat (first | apply vA | apply vN | apply vD)); exact HO250.out) hb)
  have n1_ := aS (q04 (g := gb247) (o := .cells #[.slice Ao41 t248.length co41, .bool t251] 24 (0, 0)) (by (with_reducible repeat (first | refine kN ?_ _ | refine kD ?_ | refine kA ?_ _)); exact BK247.out) hb)
  have n2_ := aS (q01 (by repeat (first | (with_reducible first | exact HB.out | apply bA | apply bN | apply bD | refine bS ?_ GE247.out) | exact HB.out)) hb)
  clear HO250
  clear BK247
  clear HB
  have HO250 := n0_
  have BK247 := n1_
  have HB := n2_
  clear n0_ n1_ n2_
  (try clear hb)
  (try clear hb2)
  (try clear hk)
  (try clear hi)
  refine hK.out _ _ trivial (fun hHeld => ?_)
  clear hK K
  refine norm_ (a' := ?_) ?_ ?_
  rotate_left
  ·show Act.put _ (some 5) _ = _
   simp only [Act.put, s1, s2, s3, q0d, q0e]
   rfl
  refine q0m (i := 1) (N := some 6) (v := ?_) (a' := ?_) #[true, true, false, false, false, false, false, false, false, false, false, false, false, false, false, false] rfl rfl (q0r HT_.out (by kernel_rfl)) (fun _ _ _ h => h) (Or.inl ⟨by rfl, ?_⟩) ?_ ?_
  rotate_left
  ·intro w'
   go_simp
   with_reducible rfl
  rotate_left
  ·simp only [Act.put, s1, s2, s3, q0d, q0e]
   rfl
  refine q0m (i := 2) (N := some 7) (v := undef) (a' := ?_) #[true, true, true, false, false, false, false, false, false, false, false, false, false, false, false, false] rfl rfl (q0r HT_.out (by kernel_rfl)) (fun _ _ _ h => h) (Or.inr ⟨by rfl, rfl⟩) ?_ ?_
  rotate_left
  ·simp only [Act.put, s1, s2, s3, q0d, q0e]
   rfl
  refine q0m (i := 3) (N := some 8) (v := undef) (a' := ?_) #[true, true, true, true, false, false, false, false, false, false, false, false, false, false, false, false] rfl rfl (q0r HT_.out (by kernel_rfl)) (fun _ _ _ h => h) (Or.inr ⟨by rfl, rfl⟩) ?_ ?_
  rotate_left
  ·simp only [Act.put, s1, s2, s3, q0d, q0e]
   rfl
  refine q0m (i := 4) (N := some 9) (v := undef) (a' := ?_) #[true, true, true, true, true, false, false, false, false, false, false, false, false, false, false, false] rfl rfl (q0r HT_.out (by kernel_rfl)) (fun _ _ _ h => h) (Or.inr ⟨by rfl, rfl⟩) ?_ ?_
  rotate_left
  ·simp only [Act.put, s1, s2, s3, q0d, q0e]
   rfl
  refine q0m (i := 5) (N := some 10) (v := undef) (a' := ?_) #[true, true, true, true, true, true, false, false, false, false, false, false, false, false, false, false] rfl rfl (q0r HT_.out (by kernel_rfl)) (fun _ _ _ h => h) (Or.inr ⟨by rfl, rfl⟩) ?_ ?_
  rotate_left
  ·simp only [Act.put, s1, s2, s3, q0d, q0e]
   rfl
  refine q0m (i := 6) (N := some 11) (v := undef) (a' := ?_) #[true, true, true, true, true, true, true, false, false, false, false, false, false, false, false, false] rfl rfl (q0r HT_.out (by kernel_rfl)) (fun _ _ _ h => h) (Or.inr ⟨by rfl, rfl⟩) ?_ ?_
  rotate_left
  ·simp only [Act.put, s1, s2, s3, q0d, q0e]
   rfl
  refine q0m (i := 7) (N := some 12) (v := ?_) (a' := ?_) #[true, true, true, true, true, true, true, true, false, false, false, false, false, false, false, false] rfl rfl (q0r HT_.out (by kernel_rfl)) (fun _ _ _ h => h) (Or.inl ⟨by rfl, ?_⟩) ?_ ?_
  rotate_left
  ·intro w'
   go_simp
   with_reducible rfl
  rotate_left
  ·simp only [Act.put, s1, s2, s3, q0d, q0e]
   rfl
  refine q0m (i := 8) (N := some 13) (v := ?_) (a' := ?_) #[true, true, true, true, true, true, true, true, true, false, false, false, false, false, false, false] rfl rfl (q0r HT_.out (by kernel_rfl)) (fun _ _ _ h => h) (Or.inl ⟨by rfl, ?_⟩) ?_ ?_
  rotate_left
  ·intro w'
   go_simp
   with_reducible rfl
  rotate_left
  ·simp only [Act.put, s1, s2, s3, q0d, q0e]
   rfl
  refine q0m (i := 9) (N := some 14) (v := undef) (a' := ?_) #[true, true, true, true, true, true, true, true, true, true, false, false, false, false, false, false] rfl rfl (q0r HT_.out (by kernel_rfl)) (fun _ _ _ h => h) (Or.inr ⟨by rfl, rfl⟩) ?_ ?_
  rotate_left
  ·simp only [Act.put, s1, s2, s3, q0d, q0e]
   rfl
  refine q0m (i := 10) (N := some 15) (v := undef) (a' := ?_) #[true, true, true, true, true, true, true, true, true, true, true, false, false, false, false, false] rfl rfl (q0r HT_.out (by kernel_rfl)) (fun _ _ _ h => h) (Or.inr ⟨by rfl, rfl⟩) ?_ ?_
  rotate_left
  ·simp only [Act.put, s1, s2, s3, q0d, q0e]
   rfl
  refine q0m (i := 11) (N := some 16) (v := undef) (a' := ?_) #[true, true, true, true, true, true, true, true, true, true, true, true, false, false, false, false] rfl rfl (q0r HT_.out (by kernel_rfl)) (fun _ _ _ h => h) (Or.inr ⟨by rfl, rfl⟩) ?_ ?_
  rotate_left
  ·simp only [Act.put, s1, s2, s3, q0d, q0e]
   rfl
  refine q0m (i := 12) (N := some 17) (v := undef) (a' := ?_) #[true, true, true, true, true, true, true, true, true, true, true, true, true, false, false, false] rfl rfl (q0r HT_.out (by kernel_rfl)) (fun _ _ _ h => h) (Or.inr ⟨by rfl, rfl⟩) ?_ ?_
  rotate_left
  ·simp only [Act.put, s1, s2, s3, q0d, q0e]
   rfl
  refine q0m (i := 13) (N := some 18) (v := undef) (a' := ?_) #[true, true, true, true, true, true, true, true, true, true, true, true, true, true, false, false] rfl rfl (q0r HT_.out (by kernel_rfl)) (fun _ _ _ h => h) (Or.inr ⟨by rfl, rfl⟩) ?_ ?_
  rotate_left
  ·simp only [Act.put, s1, s2, s3, q0d, q0e]
   rfl
  refine q0m (i := 14) (N := some 19) (v := ?_) (a' := ?_) #[true, true, true, true, true, true, true, true, true, true, true, true, true, true, true, false] rfl rfl (q0r HT_.out (by kernel_rfl)) (fun _ _ _ h => h) (Or.inl ⟨by rfl, ?_⟩) ?_ ?_
  rotate_left
  ·intro w'
   go_simp
   with_reducible rfl
  rotate_left
  ·simp only [Act.put, s1, s2, s3, q0d, q0e]
   rfl
  refine q0m (i := 15) (N := some 2) (v := ?_) (a' := ?_) #[true, true, true, true, true, true, true, true, true, true, true, true, true, true, true, true] rfl rfl (q0r HT_.out (by kernel_rfl)) (fun _ _ _ h => h) (Or.inl ⟨by rfl, ?_⟩) ?_ ?_
  rotate_left
  ·intro w'
   go_simp
   with_reducible rfl
  rotate_left
  ·simp only [Act.put, s1, s2, s3, q0d, q0e]
   rfl
  refine done_ (done_of HT_.out (by kernel_rfl)) ?_
  try go_wp2
  go_ret
  exact ⟨by first | rfl | (simp [q03, q02] <;> rfl) | (simp [*, q03, q02] <;> rfl), by repeat (first | (with_reducible first | exact HB.out | apply bA | apply bN | apply bD | refine bS ?_ GE247.out) | exact HB.out)⟩
end Go.Proofs.YthjnallbbhnndaaDoor.XDb
namespace Go.Proofs.YthjnallbbhnndaaDoor.XDb
open Go.Proofs.YthjnallbbhnndaaDoor.Short Go.RowKit Go.Proofs.YthjnallbbhnndaaDoorW.PrintWords Go.Proofs.YthjnallbbhnndaaDoorW.PrintLast Go.Proofs.YthjnallbbhnndaaDoor
def ok122 (x_ : S122) : Prop := (fun x_ : ByteArray => x_.size ≤ reachBytes) x_.f0 ∧ (fun x_ : ByteArray => x_.size ≤ reachBytes) x_.f1
theorem rd122 : Rd.Reads Tryd.prog 122 k122 ok122 :=
  ((Rd.reads_struct Tryd.underlying122 (by kernel_rfl) (Rd.readsF_cons rfl (Rd.reads_string Tryd.underlying9 (by kernel_rfl)) (Rd.readsF_one rfl (Rd.reads_string Tryd.underlying9 (by kernel_rfl))))).iso (fun x : S122 => (x.f0, x.f1)) (fun p_ => ⟨p_.1, p_.2⟩) (fun _ => rfl)).imp (fun _ h_ => h_)
def ok43 (x_ : S43) : Prop := (fun x_ : Int => (Lit.int .i64 x_).wf = true) x_.f0 ∧ (fun x_ : ByteArray => x_.size ≤ reachBytes) x_.f1 ∧ (fun l_ : List (S122) => l_.length * 32 ≤ reachBytes ∧ l_.length ≤ 9223372036854775807 ∧ ∀ a ∈ l_, ok122 a) x_.f2 ∧ (fun x_ : ByteArray => x_.size ≤ reachBytes) x_.f3 ∧ (fun x_ : Int => (Lit.int .i64 x_).wf = true) x_.f4 ∧ (fun l_ : List Int => l_.length * 8 ≤ reachBytes ∧ l_.length ≤ 9223372036854775807 ∧ ∀ a ∈ l_, (fun x_ : Int => (Lit.int .i64 x_).wf = true) a) x_.f5
theorem rd43 : Rd.Reads Tryd.prog 43 k43 ok43 :=
  ((Rd.reads_struct Tryd.underlying43 (by kernel_rfl) (Rd.readsF_cons rfl (Rd.reads_int Tryd.underlying3 (by kernel_rfl)) (Rd.readsF_cons rfl (Rd.reads_string Tryd.underlying9 (by kernel_rfl)) (Rd.readsF_cons rfl (show Rd.Reads Tryd.prog 41 (Kd.slice 122 k122) (fun l_ : List (S122) => l_.length * 32 ≤ reachBytes ∧ l_.length ≤ 9223372036854775807 ∧ ∀ a ∈ l_, ok122 a) from (Rd.reads_slice Tryd.underlying41 (by kernel_rfl) rd122).imp (fun l_ h_ => ⟨(show Tryd.prog.bytesOf 122 = 32 from by kernel_rfl) ▸ h_.1, h_.2⟩)) (Rd.readsF_cons rfl (Rd.reads_string Tryd.underlying9 (by kernel_rfl)) (Rd.readsF_cons rfl (Rd.reads_int Tryd.underlying3 (by kernel_rfl)) (Rd.readsF_one rfl (show Rd.Reads Tryd.prog 31 (Kd.slice 3 (Kd.int .i64)) (fun l_ : List Int => l_.length * 8 ≤ reachBytes ∧ l_.length ≤ 9223372036854775807 ∧ ∀ a ∈ l_, (fun x_ : Int => (Lit.int .i64 x_).wf = true) a) from (Rd.reads_slice Tryd.underlying31 (by kernel_rfl) (Rd.reads_int Tryd.underlying3 (by kernel_rfl))).imp (fun l_ h_ => ⟨(show Tryd.prog.bytesOf 3 = 8 from by kernel_rfl) ▸ h_.1, h_.2⟩))))))))).iso (fun x : S43 => (x.f0, x.f1, x.f2, x.f3, x.f4, x.f5)) (fun p_ => ⟨p_.1, p_.2.1, p_.2.2.1, p_.2.2.2.1, p_.2.2.2.2.1, p_.2.2.2.2.2⟩) (fun _ => rfl)).imp (fun _ h_ => h_)
def ok24 (x_ : S24) : Prop := (fun l_ : List (S43) => l_.length * 96 ≤ reachBytes ∧ l_.length ≤ 9223372036854775807 ∧ ∀ a ∈ l_, ok43 a) x_.f0 ∧ (fun _ : Bool => True) x_.f1
theorem rd24 : Rd.Reads Tryd.prog 24 k24 ok24 :=
  ((Rd.reads_struct Tryd.underlying24 (by kernel_rfl) (Rd.readsF_cons rfl (show Rd.Reads Tryd.prog 22 (Kd.slice 43 k43) (fun l_ : List (S43) => l_.length * 96 ≤ reachBytes ∧ l_.length ≤ 9223372036854775807 ∧ ∀ a ∈ l_, ok43 a) from (Rd.reads_slice Tryd.underlying22 (by kernel_rfl) rd43).imp (fun l_ h_ => ⟨(show Tryd.prog.bytesOf 43 = 96 from by kernel_rfl) ▸ h_.1, h_.2⟩)) (Rd.readsF_one rfl (Rd.reads_bool Tryd.underlying4 (by kernel_rfl))))).iso (fun x : S24 => (x.f0, x.f1)) (fun p_ => ⟨p_.1, p_.2⟩) (fun _ => rfl)).imp (fun _ h_ => h_)
def clerestorylaw1_DomChecks.Pure : Prop := ∀ (l0_0 : List (S43)) (a0_1 : Bool), (fun l_ : List (S43) => l_.length * 96 ≤ reachBytes ∧ l_.length ≤ 9223372036854775807 ∧ ∀ a ∈ l_, ok43 a) l0_0 → (fun _ : Bool => True) a0_1 → ∃ k, clerestorylaw1_DomChecks.f k l0_0 a0_1 = some true
end Go.Proofs.YthjnallbbhnndaaDoor.XDb
namespace Go.Proofs.YthjnallbbhnndaaDoor.Dm
open Go Go.RowKit Go.Proofs.YthjnallbbhnndaaDoor.XDb Go.Proofs.YthjnallbbhnndaaDoorW.PrintWords Go.Proofs.YthjnallbbhnndaaDoorW.PrintLast Go.Proofs.YthjnallbbhnndaaDoorW.PrintMore
set_option maxRecDepth 100000
theorem few_of_form (l0 : List S43) (q : Bool) (most : Int) (hm : 0 ≤ most ∧ most ≤ 1000) (hl : l0.length * 96 ≤ reachBytes ∧ l0.length ≤ 9223372036854775807 ∧ ∀ a ∈ l0, ok43 a) :
    ∃ ns, clerestorylaw1_few.f l0 q most = some (ns, q) ∧ (ns.length : Int) ≤ most ∧ SmallN ns ∧ KidsLe ns 17592186044416 := by
  obtain ⟨ns, hns⟩ : ∃ ns, l0.take (mn (l0.length : Int) most).toNat = ns := ⟨_, rfl⟩
  have hmn : 0 ≤ mn (l0.length : Int) most ∧ mn (l0.length : Int) most ≤ (l0.length : Int) ∧ mn (l0.length : Int) most ≤ most := by unfold mn; split <;> omega
  refine ⟨ns, ?_, by rw [← hns, List.length_take]; omega, ?_⟩
  · unfold clerestorylaw1_few.f
    rw [if_pos hmn.1, if_pos hmn.2.1, hns]
  have hok : ∀ a ∈ ns, ok43 a := fun a ha => hl.2.2 a (by rw [← hns] at ha; exact List.mem_of_mem_take ha)
  have hz : smallA (z43).f2 ∧ (z43).f1.size ≤ 140737488355328 ∧ (z43).f5.length ≤ 17592186044416 := ⟨fun x hx => by simp [z43] at hx, by decide, by decide⟩
  have hall : ∀ i : Int, smallA (q00 ns i).f2 ∧ (q00 ns i).f1.size ≤ 140737488355328 ∧ (q00 ns i).f5.length ≤ 17592186044416 := by
    intro i
    unfold q00
    by_cases c : i.toNat < ns.length
    · have e : ns.getD i.toNat z43 = ns[i.toNat] := by simp [List.getD, c]
      rw [e]
      obtain ⟨_, h1, h2, _, _, h5⟩ := hok _ (List.getElem_mem c)
      unfold reachBytes at h1 h2 h5
      refine ⟨fun x hx => ?_, by omega, by have := h5.1; omega⟩
      have := (h2.2.2 x hx).1
      unfold reachBytes at this
      omega
    · have e : ns.getD i.toNat z43 = z43 := by simp [List.getD, c]
      rw [e]
      exact hz
  exact ⟨fun i => ⟨(hall i).1, (hall i).2.1⟩, fun i => (hall i).2.2⟩
theorem both_check (ns : List S43) (q : Bool) (hS : SmallN ns) (hK : KidsLe ns 17592186044416) : ∃ K, ∀ k, K < k → dom_Check.f k ns q = some (docE ns) ∧ clerestoryref1_DocErr.f k ns q = some (docE ns) :=
  ⟨2 * ns.length + rounds ns 17592186044416, fun k hk => ⟨check_eq ns q hS 17592186044416 (by decide) hK k hk, docErr_eq ns q 17592186044416 (by decide) hK k hk⟩⟩
end Go.Proofs.YthjnallbbhnndaaDoor.Dm
namespace Go.Proofs.YthjnallbbhnndaaDoor.Pure
open Go Go.RowKit Go.Proofs.YthjnallbbhnndaaDoor.XDb Go.Proofs.YthjnallbbhnndaaDoor.Dm Go.Proofs.YthjnallbbhnndaaDoorW.PrintWords Go.Proofs.YthjnallbbhnndaaDoorW.PrintLast Go.Proofs.YthjnallbbhnndaaDoorW.PrintMore
set_option maxRecDepth 100000
theorem begunD : clerestorylaw1_domBegun.f 2000 = some true := by decide +kernel
theorem begunDK (k : Nat) (hk : 2000 ≤ k) : clerestorylaw1_domBegun.f k = some true := by
  have := more_rounds (g := fun k => clerestorylaw1_domBegun.f k) clerestorylaw1_domBegun.mono 2000 (k - 2000) _ begunD
  rw [show 2000 + (k - 2000) = k by omega] at this
  exact this
theorem newSame : clerestoryref1_SameDoc.f 100 [(⟨1, (⟨#[]⟩ : ByteArray), ([] : List S122), (⟨#[]⟩ : ByteArray), (-1), ([] : List Int)⟩ : S43)] false [(⟨1, (⟨#[]⟩ : ByteArray), ([] : List S122), (⟨#[]⟩ : ByteArray), (-1), ([] : List Int)⟩ : S43)] false = some true := by decide +kernel
theorem newSameK (k : Nat) (hk : 100 ≤ k) : clerestoryref1_SameDoc.f k [(⟨1, (⟨#[]⟩ : ByteArray), ([] : List S122), (⟨#[]⟩ : ByteArray), (-1), ([] : List Int)⟩ : S43)] false [(⟨1, (⟨#[]⟩ : ByteArray), ([] : List S122), (⟨#[]⟩ : ByteArray), (-1), ([] : List Int)⟩ : S43)] false = some true := by
  have := more_rounds (g := fun k => clerestoryref1_SameDoc.f k _ false _ false) (clerestoryref1_SameDoc.mono _ _ _ _) 100 (k - 100) _ newSame
  rw [show 100 + (k - 100) = k by omega] at this
  exact this
theorem DomChecks : clerestorylaw1_DomChecks.Pure := by
  intro l0 q hl _
  obtain ⟨ns, hf, _, hS, hK⟩ := few_of_form l0 q 210 (by omega) hl
  obtain ⟨K, hKk⟩ := both_check ns q hS hK
  refine ⟨K + 2001, ?_⟩
  obtain ⟨h1, h2⟩ := hKk (K + 2001) (by omega)
  unfold clerestorylaw1_DomChecks.f
  rw [hf, Option.bind_some, begunDK _ (by omega), Option.bind_some, if_pos rfl, h1, Option.bind_some, h2, Option.bind_some, if_pos rfl]
  unfold dom_New.f
  rw [Option.bind_some, newSameK _ (by omega), Option.bind_some]
end Go.Proofs.YthjnallbbhnndaaDoor.Pure
namespace Go.Proofs.YthjnallbbhnndaaDoor
open Go Go.Shelf Go.ChangeShapes Go.WideShapes Go.ChangeAt Go.RowKit Go.Lib
def lay2 : List (String × DataW Unit) := [("unicode/utf8.acceptRanges", Rows.laid_unicode_utf8_acceptRanges), ("unicode/utf8.first", Rows.laid_unicode_utf8_first)]
noncomputable def laidWorld (os : Os) : World :=
  let w0 := World.holding Tryd.prog os ⟨#[], #[], []⟩
  let put (h : Array Obj) (g : Nat) (cs : Array Value) : Array Obj := h.modify g fun
    | .cells _ t frozen => .cells cs t frozen
    | o => o
  let h1 := put w0.heap 1 (Lib.firstTab.map fun z => Value.int .u8 z).toArray
  let h2 := put h1 2 ((List.range 16).flatMap fun i => [Value.int .u8 (Lib.accLo i), Value.int .u8 (Lib.accHi i)]).toArray
  { w0 with heap := h2 }
theorem laid_met (os : Os) (args : Array Value) : laidMet Tryd.prog lay2 ((laidWorld os).forCall (fun _ _ => 0) ⟨#[], args, []⟩).memory :=
  (LaidIn.of_run (l := lay2) [2, 1] 8 (by kernel_rfl) (by kernel_rfl) (by kernel_rfl) (by kernel_rfl)).met
theorem own_ : ownKnob Tryd.prog.godebug = none := by kernel_rfl
theorem laidOut_ : laidOutB Tryd.prog = true := by kernel_rfl
end Go.Proofs.YthjnallbbhnndaaDoor
