/- Written by this session's program (wip/xp) out of the translation as Lean prints it: for each Go function a Lean function and the proof that the code answers just so, on the conditions named in each statement. -/
import Derived.Test.YthjnallbbhnndaaDoorG3
namespace Go.Proofs.YthjnallbbhnndaaDoor.XDe
open Go.Proofs.YthjnallbbhnndaaDoor.Short Go.RowKit Go.Proofs.YthjnallbbhnndaaDoorW.PrintWords Go.Proofs.YthjnallbbhnndaaDoorW.PrintLast Go.Proofs.YthjnallbbhnndaaDoorW.PrintMore
attribute [local go_sem] q16 q14 q1g q1f q0s q0r q15 q13   -- for this text's walks alone
set_option linter.unusedVariables false
set_option linter.unusedSimpArgs false
attribute [local go_sem high] eqA122
theorem at_T43_kept {w W1 : World} {S : Nat → Prop} {A : Option Addr} {n : Nat} {xs : List S43} (h : ∀ W', Kept w W' S → Kd.C k43 W' A n xs) (hk1 : Kept w W1 S) (i : Int) (h0 : 0 ≤ i) (h1 : i < n) : ∃ ad A2 c2 A5 c5, A = some ad ∧ W1.cell? (ad.add (i.toNat * 6)) = some (.int .i64 (q00 xs i).f0) ∧ W1.cell? ⟨(ad.add (i.toNat * 6)).block, (ad.add (i.toNat * 6)).off + 1, none⟩ = some (.string (q00 xs i).f1) ∧ W1.cell? ⟨(ad.add (i.toNat * 6)).block, (ad.add (i.toNat * 6)).off + 2, none⟩ = some (.slice A2 (q00 xs i).f2.length c2) ∧ W1.cell? ⟨(ad.add (i.toNat * 6)).block, (ad.add (i.toNat * 6)).off + 3, none⟩ = some (.string (q00 xs i).f3) ∧ W1.cell? ⟨(ad.add (i.toNat * 6)).block, (ad.add (i.toNat * 6)).off + 4, none⟩ = some (.int .i64 (q00 xs i).f4) ∧ W1.cell? ⟨(ad.add (i.toNat * 6)).block, (ad.add (i.toNat * 6)).off + 5, none⟩ = some (.slice A5 (q00 xs i).f5.length c5) ∧ (q00 xs i).f2.length ≤ c2 ∧ (∀ W', Kept w W' S → k122.C W' A2 (q00 xs i).f2.length (q00 xs i).f2) ∧ (q00 xs i).f5.length ≤ c5 ∧ (∀ W', Kept w W' S → (Kd.int .i64).C W' A5 (q00 xs i).f5.length (q00 xs i).f5) := by
 obtain ⟨ad, A2, c2, A5, c5, e, x0, x1, x2, x3, x4, x5, l2, _, l5, _⟩ := at_T43 (h W1 hk1) i h0 h1
 subst e
 have hn := Kd.foot_neS h (by omega) (by decide)
 have hlt := Kd.foot_ltS h (by omega) (by decide)
 have same : ∀ (W' : World), Kept w W' S → ∀ (a : Addr) (v : Value), a.block = ad.block → W1.cell? a = some v → W'.cell? a = some v := by
  intro W' hk a v ha hv
  unfold World.cell? at hv ⊢
  rw [ha] at hv ⊢
  rw [hk.2 _ hlt hn, ← hk1.2 _ hlt hn]
  exact hv
 refine ⟨ad, A2, c2, A5, c5, rfl, x0, x1, x2, x3, x4, x5, l2, fun W' hk => ?_, l5, fun W' hk => ?_⟩
 ·obtain ⟨ad', A2', c2', A5', c5', e, _, _, y2, _, _, _, _, g2, _, _⟩ := at_T43 (h W' hk) i h0 h1
  injection e with e
  subst e
  rw [same W' hk ⟨(ad.add (i.toNat * 6)).block, (ad.add (i.toNat * 6)).off + 2, none⟩ _ (q0q _ _) x2] at y2
  injection y2 with y2
  injection y2 with y2
  rw [y2]
  exact g2
 ·obtain ⟨ad', A2', c2', A5', c5', e, _, _, _, _, _, y5, _, _, _, g5⟩ := at_T43 (h W' hk) i h0 h1
  injection e with e
  subst e
  rw [same W' hk ⟨(ad.add (i.toNat * 6)).block, (ad.add (i.toNat * 6)).off + 5, none⟩ _ (q0q _ _) x5] at y5
  injection y5 with y5
  injection y5 with y5
  rw [y5]
  exact g5
mutual
def dom_walk.l0 : Nat → List Int → List Int → Int → Int → List (S43) → Bool → Option (List Int)
 | 0, _, _, _, _, _, _ => none
 | k + 1, x2, x18, x19, x20, x197000, x197001 => if x20 < x19 then (if 0 ≤ x20 then (if x20 < (x18.length : Int) then ((dom_walk.f k x197000 x197001 (rd x18 x20) x2).bind fun t202 => (dom_walk.l0 k t202 x18 x19 (wrap64 (x20 + 1)) x197000 x197001)) else (none)) else (none)) else (some x2)
def dom_walk.f : Nat → List (S43) → Bool → Int → List Int → Option (List Int)
 | 0, _, _, _, _ => none
 | k + 1, l0_0, a0_1, a1, l2 => if l2.length < 17592186044416 then (if 0 ≤ a1 then (if a1 < (l0_0.length : Int) then (dom_walk.l0 k (l2 ++ [a1]) ((q00 l0_0 a1).f5) (((q00 l0_0 a1).f5).length : Int) 0 l0_0 a0_1) else (none)) else (none)) else (none)
end
theorem dom_walk.mono_l : ∀ k, (∀ y0 y1 y2 y3, LeO (dom_walk.f k y0 y1 y2 y3) (dom_walk.f (k + 1) y0 y1 y2 y3)) ∧ (∀ y0 y1 y2 y3 y4 y5, LeO (dom_walk.l0 k y0 y1 y2 y3 y4 y5) (dom_walk.l0 (k + 1) y0 y1 y2 y3 y4 y5))
 | 0 => ⟨fun _ _ _ _ r h => by simp [dom_walk.f] at h, fun _ _ _ _ _ _ r h => by simp [dom_walk.l0] at h⟩
 | k + 1 => by
  obtain ⟨ih0, ih1⟩ := dom_walk.mono_l k
  refine ⟨?_, ?_⟩
  all_goals intros
  all_goals (first | unfold dom_walk.f | unfold dom_walk.l0)
  all_goals (repeat' first | with_reducible first | apply ih0 | apply ih1 | exact LeO.refl _ | exact LeO.none _ | refine LeO.ite ?_ ?_ | refine LeO.bind ?_ (fun _ => ?_) | (first | apply ih0 | apply ih1 | exact LeO.none _ | refine LeO.ite ?_ ?_ | refine LeO.bind ?_ (fun _ => ?_)))
theorem dom_walk.mono : ∀ a0 a1 a2 a3 k, LeO (dom_walk.f k a0 a1 a2 a3) (dom_walk.f (k + 1) a0 a1 a2 a3) := by
 intro a0 a1 a2 a3 k
 obtain ⟨ih0, ih1⟩ := dom_walk.mono_l k
 exact ih0 a0 a1 a2 a3
set_option maxHeartbeats 8000000 in
set_option maxRecDepth 100000 in
theorem dom_walk.calls (k : Nat) : ∀ (A0_0 : Option Addr) (c0_0 : Nat) (l0_0 : List (S43)) (a0_1 : Bool) (a1 : Int) (P2_ : Nat → Prop) (u9000_ : Value) (l2 : List Int) (r : List Int) (w0 w : World) (hB : Below w0.heap.size w0 w) (hr0_0 : ∀ W_, Kept w W_ (fun k_ => P2_ k_) → Kd.C k43 W_ A0_0 l0_0.length l0_0) (hc0_0 : l0_0.length ≤ c0_0) (ho2 : Kd.R (Kd.int .i64) 3 w w0.heap.size P2_ u9000_ l2) (h : dom_walk.f k l0_0 a0_1 a1 l2 = some r),
 Calls Tryd.prog 109 #[.agg #[.slice A0_0 l0_0.length c0_0, .bool a0_1], .int .i64 a1, u9000_] w fun e w' => ∃ v0_ : Value, e = .returned (v0_) ∧ Kd.R (Kd.int .i64) 3 w' w0.heap.size (fun k_ => (P2_ k_ ∨ w.heap.size ≤ k_)) v0_ r ∧ Below w0.heap.size w0 w' ∧ Kept w w' (fun k_ => P2_ k_) := by
 induction k using Nat.strongRecOn with
 | _ k ih =>
 intro A0_0 c0_0 l0_0 a0_1 a1 P2_ u9000_ l2 r w0 w hB hr0_0 hc0_0 ho2 h
 cases k with
 | zero => exact absurd h (by simp [dom_walk.f])
 | succ k =>
 simp only [dom_walk.f] at h
 have hu24 := Tryd.underlying24
 have HR0_0 := aS hr0_0
 have HC0_0 := aS hc0_0
 clear hr0_0 hc0_0
 have HO2 := aS (show Kd.R (Kd.int .i64) 3 w w0.heap.size (fun k_ => (P2_ k_ ∨ w.heap.size ≤ k_)) u9000_ l2 from Kd.R_mono ho2 (fun k_ hk => (.inl hk)))
 have HK := aS (Kept.refl w (fun k_ => P2_ k_))
 have HW0 := aS hB.size
 have HB := aS hB
 clear hB
 have H := h; clear h; unfold dom_walk.f at H
 refine iGp H ?_; clear H; intro c4 H
 have LMc4 := aS c4
 clear c4
 obtain ⟨y197, hy197⟩ : ∃ y_ : List Int, y_ = (l2 ++ [a1]) := ⟨_, rfl⟩
 replace H : (if 0 ≤ a1 then (if a1 < (l0_0.length : Int) then (dom_walk.l0 k y197 ((q00 l0_0 a1).f5) (((q00 l0_0 a1).f5).length : Int) 0 l0_0 a0_1) else (none)) else (none)) = some r := by first | (rw [hy197]; with_reducible exact H) | (have H2_ := (Option.bind_some _ _).symm.trans H; rw [hy197]; with_reducible exact H2_) | (have H2_ := (Option.bind_some _ _).symm.trans H; with_reducible exact H2_) | with_reducible exact H | (rw [hy197]; exact H) | exact H
 have Ny197 := aS hy197
 clear hy197
 refine iLp H ?_; clear H; intro c5b0 H
 refine iTp H ?_; clear H; intro c6b0 H
 have H' := aS H
 clear H
 go_enter Tryd.func109, Tryd.ntmps109
 go_wp2_with (first | ((with_reducible refine q07 (N := 3) rfl ?_); refine q0t ?hg (N := 3) ?hd (cs := #[.slice A0_0 l0_0.length c0_0, .bool a0_1]) (t := 24) ?hr ?_; (case hd => rfl); (case hg => rfl); (case hr => first | (go_simp; done) | (go_simp; rfl)); intro gb196 hg w7 hbox hb; have n0_ := aS (Kd.R_below (zf HO2.out) hb); have n1_ := aS (Kept.below (S := (fun k_ => P2_ k_)) (by repeat (first | (with_reducible first | exact HK.out | apply Kept.alloc | apply Kept.drewN | apply Kept.drew) | exact HK.out)) hb); have n2_ := aS (q01 (z7 HB.out) hb); have n3_ := aS (hbox); have n4_ := aS ((by rw [hg]; exact (by first | exact HK.out.1 | exact (show Kept w _ (fun k_ => P2_ k_) from by repeat (first | (with_reducible first | exact HK.out | apply Kept.alloc | apply Kept.drewN | apply Kept.drew) | exact HK.out)).1) : w.heap.size ≤ gb196)); have n5_ := aS ((by rw [hg]; exact (q0c (z7 HB.out)) : w0.heap.size ≤ gb196)); clear HO2; clear HK; clear HB; have HO2 := n0_; have HK := n1_; have HB := n2_; have BK196 := n3_; have GW196 := n4_; have GE196 := n5_; clear n0_ n1_ n2_ n3_ n4_ n5_; clear hb hbox hg) | ((with_reducible refine q1m (b := .append) (xs := #[.tmp 9, .tmp 11]) rfl ?_); at_builtin; refine Kd.R_append (Kd.int .i64) (w0 := w0) w0.heap.size rfl (.tmp 9) (.tmp 11) 31 3 (.int .i64 0) 8 rfl Tryd.underlying31 info3 rfl (by decide) (by omega) u9000_ l2 a1 [.int .i64 a1] (fun k_ => (P2_ k_ ∨ w.heap.size ≤ k_)) (fun _ => False) rfl rfl ?aP (fun _ hk => hk.elim) ?aF ?aO ?aB ?aS ?aL ?_; (case aP => exact rfl); (case aB => exact (z6 HB.out GE196.out)); (case aF => exact (fun k_ hk => (.inr (Nat.le_trans (by first | exact HK.out.1 | exact (show Kept w _ (fun k_ => P2_ k_) from by repeat (first | (with_reducible first | exact HK.out | apply Kept.alloc | apply Kept.drewN | apply Kept.drew | refine Kept.setCell ?_ (.inr GW196.out) _) | exact HK.out)).1) hk)))); (case aO => exact (zf HO2.out)); (case aS => exact (q0c (z6 HB.out GE196.out))); (case aL => have := LMc4.out; omega); intro v198 w8 ho hb hg hat; rw [← Ny197.out] at ho; have n0_ := aS (q1b (g := gb196) (o := .cells #[.slice A0_0 l0_0.length c0_0, .bool a0_1] 24 (0, 0)) (za BK196.out) hg (Kd.R_ne HO2.out BK196.out (by decide))); have n1_ := aS (hb); have n2_ := aS (Kept.of_grown (S := (fun k_ => P2_ k_)) hg (by repeat (first | (with_reducible first | exact HK.out | apply Kept.alloc | apply Kept.drewN | apply Kept.drew | refine Kept.setCell ?_ (.inr GW196.out) _) | exact HK.out)) (fun k_ e_ => (HO2.out.1 k_ e_))); have n3_ := aS (ho); clear BK196; clear HB; clear HK; clear HO2; have BK196 := n0_; have HB := n1_; have HK := n2_; have HO199 := n3_; clear n0_ n1_ n2_ n3_; clear ho hb hg hat; obtain ⟨hczL_0, hczL_1, hfzL_0, hfzL_1⟩ := bk2 BK196.out; have p200 : 0 ≤ (a1 : Int) := od zb; have q200 : a1 < (l0_0.length : Int) := od zb; obtain ⟨ad200, A200_2, c200_2, A200_5, c200_5, e200, hx200_0, hx200_1, hx200_2, hx200_3, hx200_4, hx200_5, hl200_2, hi200_2, hl200_5, hi200_5⟩ := at_T43_kept HR0_0.out HK.out a1 p200 q200; cases e200; have HR200_2 := aS hi200_2; have HC200_2 := aS hl200_2; clear hi200_2 hl200_2; have HR200_5 := aS hi200_5; have HC200_5 := aS hl200_5; clear hi200_5 hl200_5; replace p200 := eq_true p200; replace q200 := eq_true q200))
 go_loopg [2, 20] k (fun kq v2 v20 w' => ∃ (x2_1 : List Int) (x20_1 : Int), v20 = .int .i64 x20_1 ∧ Aside0 (dom_walk.l0 kq x2_1 ((q00 l0_0 a1).f5) (((q00 l0_0 a1).f5).length : Int) x20_1 l0_0 a0_1 = some r) ∧ Aside0 (kq ≤ k) ∧ Aside0 (Kd.R (Kd.int .i64) 3 w' w0.heap.size (fun k_ => (P2_ k_ ∨ w.heap.size ≤ k_)) v2 x2_1) ∧ Aside0 (w'.heap[gb196]? = some (.cells #[(.slice (some ad200) l0_0.length c0_0), .bool a0_1] 24 (0, 0))) ∧ Aside0 (Kept w w' (fun k_ => P2_ k_)) ∧ Aside0 (Below w0.heap.size w0 w'))
 case atStart => exact ⟨(y197), (0), zi, H', ⟨Nat.le_refl _⟩, ⟨by (with_reducible repeat (first | apply rA | apply rN | apply rD)); exact HO199.out⟩, ⟨by (with_reducible repeat (first | refine kN ?_ _ | refine kD ?_ | refine kA ?_ _)); exact BK196.out⟩, ⟨by repeat (first | (with_reducible first | exact HK.out | apply Kept.alloc | apply Kept.drewN | apply Kept.drew | refine Kept.setCell ?_ (.inr GW196.out) _) | exact HK.out)⟩, ⟨by repeat (first | (with_reducible first | exact HB.out | apply bA | apply bN | apply bD | refine bS ?_ GE196.out) | exact HB.out)⟩⟩
 case round =>
  clear H'
  obtain ⟨x2_1, x20_1, rfl, HA, HK1, HO_2, BK196, HK, HB⟩ := hrel
  cases gk with
  | zero => exact absurd HA.out (by simp [dom_walk.l0])
  | succ k1 =>
   have H := HA.out
   clear HA
   simp only [dom_walk.l0] at H
   refine iT H ?p10 ?n10 <;> clear H
   case' p10 => intro c10b0 H; refine iLp H ?_; clear H; intro c11b0 H; refine iTp H ?_; clear H; intro c12b0 H
   case' n10 => intro c10b0 H
   case p10 =>
    replace H := iB H
    obtain ⟨t202, A13, H⟩ := H
    have H' := aS H
    clear H
    obtain ⟨ad201, e201, hx201_0, p201, q201⟩ := atIA (HR200_5.out _ HK.out) x20_1 zb zb
    cases e201
    obtain ⟨hczL_0, hczL_1, hfzL_0, hfzL_1⟩ := bk2 BK196.out
    obtain ⟨Ao15, co15, eo15⟩ := Kd.R_slice HO_2.out
    subst eo15
    go_wp2_with (first | ((with_reducible refine q0j (f := 109) rfl ?_); refine q1d (some 27) rfl rfl Tryd.func109 (by kernel_rfl) rfl #[.agg #[.slice (some ad200) l0_0.length c0_0, .bool a0_1], .int .i64 (rd ((q00 l0_0 a1).f5) x20_1), .slice Ao15 x2_1.length co15] rfl zc ?_; (with_reducible refine (ih k1 (by have := HK1.out; omega) _ _ l0_0 a0_1 (rd ((q00 l0_0 a1).f5) x20_1) (fun k_ => some k_ = (.slice Ao15 x2_1.length co15 : Value).ownBlock) (.slice Ao15 x2_1.length co15) x2_1 t202 w0 _ ?side1 ?side2 ?side3 ?side4 A13.out).mono ?_); (case side1 => repeat (first | (with_reducible first | exact HB.out | apply bA | apply bN | apply bD | refine bS ?_ GE196.out) | exact HB.out)); (case side2 => exact Kd.C_kept_call HR0_0.out (by repeat (first | (with_reducible first | exact HK.out | apply Kept.alloc | apply Kept.drewN | apply Kept.drew | refine Kept.setCell ?_ (.inr GW196.out) _) | exact HK.out)) (fun k_ hs_ => (fun e_ => (HO_2.out.1 k_ e_.symm)) hs_)); (case side3 => exact HC0_0.out); (case side4 => exact Kd.R_tight rfl HO_2.out); rintro e w16 ⟨v203, rfl, ho0, hb, hkp⟩; refine ⟨_, rfl, ?_⟩; have n0_ := aS (blk_kept (za BK196.out) hkp (fun hs_ => (fun e_ => (Kd.R_ne HO_2.out BK196.out (by decide)) e_) hs_)); have n1_ := aS (Kd.R_mono (ok' := fun k_ => (P2_ k_ ∨ w.heap.size ≤ k_)) ho0 (fun k_ hk_ => Or.elim hk_ (fun hs_ => (HO_2.out.1 k_ (hs_).symm)) (fun hn_ => (.inr (Nat.le_trans (by first | exact HK.out.1 | exact (show Kept w _ (fun k_ => P2_ k_) from by repeat (first | (with_reducible first | exact HK.out | apply Kept.alloc | apply Kept.drewN | apply Kept.drew | refine Kept.setCell ?_ (.inr GW196.out) _) | exact HK.out)).1) hn_))))); have n2_ := aS (Kept.then_ (S := (fun k_ => P2_ k_)) (by repeat (first | (with_reducible first | exact HK.out | apply Kept.alloc | apply Kept.drewN | apply Kept.drew | refine Kept.setCell ?_ (.inr GW196.out) _) | exact HK.out)) hkp (fun k_ hs_ => (fun e_ => (HO_2.out.1 k_ e_.symm)) hs_)); have n3_ := aS (hb); clear BK196; clear HK; clear HB; clear HO_2; have BK196 := n0_; have HO204 := n1_; have HK := n2_; have HB := n3_; clear n0_ n1_ n2_ n3_; (try clear hb); (try clear hkp); (try clear ho0)))
    go_roundg k1
    case measure => have := HK1.out; omega
    case rel => exact ⟨(t202), (wrap64 (x20_1 + 1)), zi, H', ⟨by have := HK1.out; omega⟩, ⟨by (with_reducible repeat (first | apply rA | apply rN | apply rD)); exact HO204.out⟩, ⟨by (with_reducible repeat (first | refine kN ?_ _ | refine kD ?_ | refine kA ?_ _)); exact BK196.out⟩, ⟨by repeat (first | (with_reducible first | exact HK.out | apply Kept.alloc | apply Kept.drewN | apply Kept.drew | refine Kept.setCell ?_ (.inr GW196.out) _) | exact HK.out)⟩, ⟨by repeat (first | (with_reducible first | exact HB.out | apply bA | apply bN | apply bD | refine bS ?_ GE196.out) | exact HB.out)⟩⟩
   case n10 =>
    obtain rfl := Option.some.inj H
    go_wp2
    go_ret
    exact ⟨_, by first | rfl | (simp [q05, q04] <;> rfl) | (simp [*, q05, q04] <;> rfl), by (with_reducible repeat (first | apply rA | apply rN | apply rD)); exact HO_2.out, by repeat (first | (with_reducible first | exact HB.out | apply bA | apply bN | apply bD | refine bS ?_ GE196.out) | exact HB.out), by repeat (first | (with_reducible first | exact HK.out | apply Kept.alloc | apply Kept.drewN | apply Kept.drew | refine Kept.setCell ?_ (.inr GW196.out) _) | exact HK.out)⟩
def dom_Order.f (k : Nat) (l0_0 : List (S43)) (a0_1 : Bool) : Option (List Int × Int) := (dom_Check.f k l0_0 a0_1).bind fun t206 => (if t206 = 0 then ((dom_walk.f k l0_0 a0_1 0 ([] : List Int)).bind fun t207 => (some (t207, 0))) else (some (([] : List Int), t206)))
theorem dom_Order.mono : ∀ a0 a1 k, LeO (dom_Order.f k a0 a1) (dom_Order.f (k + 1) a0 a1) := by
 intro a0 a1 k
 unfold dom_Order.f
 repeat' first | with_reducible first | apply dom_Check.mono | apply dom_walk.mono | exact LeO.refl _ | exact LeO.none _ | refine LeO.ite ?_ ?_ | refine LeO.bind ?_ (fun _ => ?_) | (first | apply dom_Check.mono | apply dom_walk.mono | exact LeO.none _ | refine LeO.ite ?_ ?_ | refine LeO.bind ?_ (fun _ => ?_))
set_option maxHeartbeats 8000000 in
set_option maxRecDepth 100000 in
theorem dom_Order.calls (k : Nat) (A0_0 : Option Addr) (c0_0 : Nat) (l0_0 : List (S43)) (a0_1 : Bool) (r1 : List Int) (r2 : Int) (w : World) (hr0_0 : Kd.C k43 w A0_0 l0_0.length l0_0) (hc0_0 : l0_0.length ≤ c0_0) (h : dom_Order.f k l0_0 a0_1 = some (r1, r2)) :
 Calls Tryd.prog 59 #[.agg #[.slice A0_0 l0_0.length c0_0, .bool a0_1]] w fun e w' => ∃ v0_ : Value, e = .returned (.tuple #[v0_, .int .i64 r2]) ∧ Kd.R (Kd.int .i64) 3 w' w.heap.size (fun _ => True) v0_ r1 ∧ Below w.heap.size w w' := by
 have hu24 := Tryd.underlying24
 have HR0_0 := aS hr0_0
 have HC0_0 := aS hc0_0
 clear hr0_0 hc0_0
 have HB := aS (Below.refl w.heap.size w)
 have H := h; clear h; unfold dom_Order.f at H
 replace H := iB H
 obtain ⟨t206, A2, H⟩ := H
 refine iE H ?p3 ?n3 <;> clear H
 case' p3 => intro c3b0 c3b1 H
 case' n3 => intro c3 c3b0 c3b1 H
 case p3 =>
  replace H := iB H
  obtain ⟨t207, A4, H⟩ := H
  simp only [Option.some.injEq, Prod.mk.injEq] at H
  obtain ⟨rfl, rfl⟩ := H
  go_enter Tryd.func59, Tryd.ntmps59
  go_wp2_with (first | ((with_reducible refine q07 (N := 1) rfl ?_); refine box0 rfl (N := 1) rfl (cs := #[.slice A0_0 l0_0.length c0_0, .bool a0_1]) (t := 24) zh (z7 HB.out) ?_; clear HB; intro gb205 w5 BK205 GW205 HB; have GE205 := GW205; obtain ⟨hczL_0, hczL_1, hfzL_0, hfzL_1⟩ := bk2 BK205.out) | ((with_reducible refine q0j (f := 52) rfl ?_); refine q1d (some 6) rfl rfl Tryd.func52 (by kernel_rfl) rfl #[.agg #[.slice A0_0 l0_0.length c0_0, .bool a0_1]] rfl zc ?_; (with_reducible refine (dom_Check.calls k _ _ l0_0 a0_1 t206 _ ?side1 ?side2 A2.out).mono ?_); (case side1 => repeat (first | exact (Kd.C_below HR0_0.out HB.out) | (with_reducible refine cA ?_ _) | (with_reducible refine cN ?_ _) | (with_reducible refine cD ?_))); (case side2 => exact HC0_0.out); rintro e w7 ⟨rfl, hb⟩; refine ⟨_, rfl, ?_⟩; replace BK205 := aS (q02 (g := gb205) (o := .cells #[.slice A0_0 l0_0.length c0_0, .bool a0_1] 24 (0, 0)) (za BK205.out) hb); replace HB := aS (q01 (z6 HB.out GE205.out) hb); (try clear hb); (try clear hb2); (try clear hk); (try clear hi); obtain ⟨hczL_0, hczL_1, hfzL_0, hfzL_1⟩ := bk2 BK205.out) | ((with_reducible refine q0j (f := 109) rfl ?_); refine q1d (some 11) rfl rfl Tryd.func109 (by kernel_rfl) rfl #[.agg #[.slice A0_0 l0_0.length c0_0, .bool a0_1], .int .i64 0, .slice none 0 0] rfl zc ?_; (refine (dom_walk.calls k _ _ l0_0 a0_1 0 (fun k_ => some k_ = (.slice none 0 0 : Value).ownBlock) (.slice none 0 0) ([] : List Int) t207 w _ ?side1 ?side2 ?side3 ?side4 A4.out).mono ?_); (case side1 => repeat (first | (with_reducible first | exact HB.out | apply bA | apply bN | apply bD | refine bS ?_ GE205.out) | exact HB.out)); (case side2 => exact Kd.C_kept_came k43_heap HR0_0.out (z6 HB.out GE205.out) (fun k_ hs_ => (fun e_ => by simp [Value.ownBlock] at e_) hs_)); (case side3 => exact HC0_0.out); (case side4 => exact Kd.R_nil _ _ _ _ _); rintro e w9 ⟨v208, rfl, ho0, hb, hkp⟩; refine ⟨_, rfl, ?_⟩; replace BK205 := aS (blk_kept (za BK205.out) hkp (fun hs_ => (fun e_ => by simp [Value.ownBlock] at e_) hs_)); have HO209 := aS (Kd.R_mono (ok' := fun k_ => True) ho0 (fun k_ hk_ => trivial)); replace HB := aS (hb); (try clear hb); (try clear hkp); (try clear ho0)))
  go_ret2
  exact ⟨_, by first | rfl | (simp [q05, q04] <;> rfl) | (simp [*, q05, q04] <;> rfl), by (with_reducible repeat (first | apply rA | apply rN | apply rD)); exact HO209.out, by repeat (first | (with_reducible first | exact HB.out | apply bA | apply bN | apply bD | refine bS ?_ GE205.out) | exact HB.out)⟩
 case n3 =>
  simp only [Option.some.injEq, Prod.mk.injEq] at H
  obtain ⟨rfl, rfl⟩ := H
  go_enter Tryd.func59, Tryd.ntmps59
  go_wp2_with (first | ((with_reducible refine q07 (N := 1) rfl ?_); refine box0 rfl (N := 1) rfl (cs := #[.slice A0_0 l0_0.length c0_0, .bool a0_1]) (t := 24) zh (z7 HB.out) ?_; clear HB; intro gb205 w10 BK205 GW205 HB; have GE205 := GW205; obtain ⟨hczL_0, hczL_1, hfzL_0, hfzL_1⟩ := bk2 BK205.out) | ((with_reducible refine q0j (f := 52) rfl ?_); refine q1d (some 6) rfl rfl Tryd.func52 (by kernel_rfl) rfl #[.agg #[.slice A0_0 l0_0.length c0_0, .bool a0_1]] rfl zc ?_; (with_reducible refine (dom_Check.calls k _ _ l0_0 a0_1 t206 _ ?side1 ?side2 A2.out).mono ?_); (case side1 => repeat (first | exact (Kd.C_below HR0_0.out HB.out) | (with_reducible refine cA ?_ _) | (with_reducible refine cN ?_ _) | (with_reducible refine cD ?_))); (case side2 => exact HC0_0.out); rintro e w12 ⟨rfl, hb⟩; refine ⟨_, rfl, ?_⟩; replace BK205 := aS (q02 (g := gb205) (o := .cells #[.slice A0_0 l0_0.length c0_0, .bool a0_1] 24 (0, 0)) (za BK205.out) hb); replace HB := aS (q01 (z6 HB.out GE205.out) hb); (try clear hb); (try clear hb2); (try clear hk); (try clear hi)))
  go_ret2
  exact ⟨_, by first | rfl | (simp [q05, q04] <;> rfl) | (simp [*, q05, q04] <;> rfl), by first | exact Kd.R_nil _ _ _ _ _ | exact Kd.N_nil _ _ _ _ _ | exact Kd.V_nil _ _ _ _ _ | exact Kd.Q_nil _ _ _ _ _ | exact Kd.S_nil _ _ _ _ _, by repeat (first | (with_reducible first | exact HB.out | apply bA | apply bN | apply bD | refine bS ?_ GE205.out) | exact HB.out)⟩
def clerestorylaw1_domBegun.f (k : Nat)  : Option (Bool) := (dom_New.f).bind fun bt210 => ((dom_Apply.f k bt210.1 bt210.2 4 0 0 0 (⟨#[]⟩ : ByteArray) (⟨#[]⟩ : ByteArray) 2 (⟨#[112]⟩ : ByteArray) ([] : List (S122)) (⟨#[]⟩ : ByteArray) 0 ([] : List Int)).bind fun bt214 => ((dom_Apply.f k bt214.1 bt214.2.1 5 0 bt214.2.2.1 (-1) (⟨#[]⟩ : ByteArray) (⟨#[]⟩ : ByteArray) 0 (⟨#[]⟩ : ByteArray) ([] : List (S122)) (⟨#[]⟩ : ByteArray) 0 ([] : List Int)).bind fun bt221 => ((dom_Order.f k bt221.1 bt221.2.1).bind fun bt227 => (if bt214.2.2.1 = 1 then (if bt214.2.2.2 = 0 then (if bt221.2.2.2 = 0 then (if bt227.2 = 0 then ((clerestoryref1_SameInts.f k bt227.1 (([0, 1] : List Int))).bind fun t234 => (if t234 = true then ((dom_Check.f k ([] : List (S43)) false).bind fun t235 => (some (t235 == 3))) else (none))) else (none)) else (none)) else (none)) else (none)))))
theorem clerestorylaw1_domBegun.mono : ∀ k, LeO (clerestorylaw1_domBegun.f k ) (clerestorylaw1_domBegun.f (k + 1) ) := by
 intro  k
 unfold clerestorylaw1_domBegun.f
 repeat' first | with_reducible first | apply clerestoryref1_SameInts.mono | apply dom_Apply.mono | apply dom_Check.mono | apply dom_Order.mono | exact LeO.refl _ | exact LeO.none _ | refine LeO.ite ?_ ?_ | refine LeO.bind ?_ (fun _ => ?_) | (first | apply clerestoryref1_SameInts.mono | apply dom_Apply.mono | apply dom_Check.mono | apply dom_Order.mono | exact LeO.none _ | refine LeO.ite ?_ ?_ | refine LeO.bind ?_ (fun _ => ?_))
set_option maxHeartbeats 8000000 in
set_option maxRecDepth 100000 in
theorem clerestorylaw1_domBegun.calls (k : Nat)  (r : Bool) (w : World) (h : clerestorylaw1_domBegun.f k  = some r) :
 Calls Tryd.prog 51 #[] w fun e w' => e = .returned (.bool r) ∧ Below w.heap.size w w' := by
 have hu43 := Tryd.underlying43
 have hu87 := Tryd.underlying87
 have hu24 := Tryd.underlying24
 have HB := aS (Below.refl w.heap.size w)
 have H := h; clear h; unfold clerestorylaw1_domBegun.f at H
 replace H := iB H
 obtain ⟨⟨t210, t213⟩, A1, H⟩ := H
 try dsimp only at H
 replace H := iB H
 obtain ⟨⟨t214, t217, t218, t219⟩, A2, H⟩ := H
 try dsimp only at H
 replace H := iB H
 obtain ⟨⟨t221, t224, t225, t226⟩, A3, H⟩ := H
 try dsimp only at H
 replace H := iB H
 obtain ⟨⟨t227, t230⟩, A4, H⟩ := H
 try dsimp only at H
 refine iE H ?p5 ?n5 <;> clear H
 case' p5 => intro c5b0 c5b1 H; refine iE H ?p6 ?n6 <;> clear H
 case' p6 => intro c6b0 c6b1 H; refine iE H ?p7 ?n7 <;> clear H
 case' p7 => intro c7b0 c7b1 H; refine iE H ?p8 ?n8 <;> clear H
 case' p8 =>
  intro c8b0 c8b1 H
  obtain ⟨y231, hy231⟩ : ∃ y_ : List Int, y_ = (([0, 1] : List Int)) := ⟨_, rfl⟩
  replace H : ((clerestoryref1_SameInts.f k t227 y231).bind fun t234 => (if t234 = true then ((dom_Check.f k ([] : List (S43)) false).bind fun t235 => (some (t235 == 3))) else (none))) = some r := by first | (rw [hy231]; with_reducible exact H) | (have H2_ := (Option.bind_some _ _).symm.trans H; rw [hy231]; with_reducible exact H2_) | (have H2_ := (Option.bind_some _ _).symm.trans H; with_reducible exact H2_) | with_reducible exact H | (rw [hy231]; exact H) | exact H
  have Ny231 := aS hy231
  clear hy231
  replace H := iB H
  obtain ⟨t234, A9, H⟩ := H
  refine iV H ?p10 ?n10 <;> clear H
 case' p10 => intro c10 H; subst c10
 case' n10 => intro c10 H; subst c10
 case' n8 => intro c8 c8b0 c8b1 H
 case' n7 => intro c7 c7b0 c7b1 H
 case' n6 => intro c6 c6b0 c6b1 H
 case' n5 => intro c5 c5b0 c5b1 H
 case p10 =>
  replace H := iB H
  obtain ⟨t235, A11, H⟩ := H
  obtain rfl := Option.some.inj H
  go_enter Tryd.func51, Tryd.ntmps51
  go_wp2_with (first | ((with_reducible refine q0j (f := 54) rfl ?_); refine q1d (some 9) rfl rfl Tryd.func54 (by kernel_rfl) rfl #[] rfl zc ?_; (with_reducible refine (dom_New.calls  t210 t213 _ A1.out).mono ?_); rintro e w12 ⟨v211, rfl, ho0, hb⟩; refine ⟨_, rfl, ?_⟩; have HO212 := aS (Kd.S_lower ho0 (q0c (z7 HB.out))); replace HB := aS (q01 (z7 HB.out) hb); (try clear hb); (try clear hb2); (try clear hk); (try clear hi); (try clear ho0); obtain ⟨Ao13, co13, eo13⟩ := Kd.S_slice HO212.out; subst eo13) | ((with_reducible refine q0j (f := 55) rfl ?_); refine q1d (some 12) rfl rfl Tryd.func55 (by kernel_rfl) rfl #[.agg #[.slice Ao13 t210.length co13, .bool t213], .agg #[.int .i64 4, .int .i64 0, .int .i64 0, .int .i64 0, .string (⟨#[]⟩ : ByteArray), .string (⟨#[]⟩ : ByteArray), .int .i64 2, .string (⟨#[112]⟩ : ByteArray), .slice none 0 0, .string (⟨#[]⟩ : ByteArray), .int .i64 0, .slice none 0 0]] rfl zc ?_; (refine (dom_Apply.calls k _ _ t210 t213 4 0 0 0 (⟨#[]⟩ : ByteArray) (⟨#[]⟩ : ByteArray) 2 (⟨#[112]⟩ : ByteArray) _ _ ([] : List (S122)) (⟨#[]⟩ : ByteArray) 0 _ _ ([] : List Int) t214 t217 t218 t219 _ ?side1 ?side2 ?side3 ?side4 ?side5 ?side6 A2.out).mono ?_); (case side1 => repeat (first | exact (Kd.S_reads' HO212.out).2.2 | (with_reducible refine cA ?_ _) | (with_reducible refine cN ?_ _) | (with_reducible refine cD ?_))); (case side2 => exact (Kd.S_reads' HO212.out).2.1); (case side3 => exact Kd.C_nil _ _); (case side4 => exact Nat.le_refl _); (case side5 => exact Kd.C_nil _ _); (case side6 => exact Nat.le_refl _); rintro e w14 ⟨v215, rfl, ho0, hb⟩; refine ⟨_, rfl, ?_⟩; have n0_ := aS (Kd.S_elder' (zg HO212.out) (Kd.S_base ho0) hb); have n1_ := aS (Kd.S_lower (Kd.S_new' ho0 (Kd.S_lt (zg HO212.out))) (q0c (z7 HB.out))); have n2_ := aS (q01 (z7 HB.out) hb); clear HO212; clear HB; have HO212 := n0_; have HO216 := n1_; have HB := n2_; clear n0_ n1_ n2_; (try clear hb); (try clear hb2); (try clear hk); (try clear hi); (try clear ho0)) | ((with_reducible refine q07 (N := 1) rfl ?_); (try (refine q12 (by rfl) ?_; dsimp only)); refine q0t ?hg (N := 1) ?hd (cs := #[.slice none 0 0, .bool false]) (t := 24) ?hr ?_; (case hd => rfl); (case hg => rfl); (case hr => first | (go_simp; done) | (go_simp; rfl)); intro gb220 hg w15 hbox hb; replace HO212 := aS (Kd.S_below (zg HO212.out) hb); replace HO216 := aS (Kd.S_below (zg HO216.out) hb); have BK220 := aS (hbox); have GW220 := aS ((by rw [hg]; exact (q0c (z7 HB.out)) : w.heap.size ≤ gb220)); have GE220 := aS ((by rw [hg]; exact (q0c (z7 HB.out)) : w.heap.size ≤ gb220)); replace HB := aS (q01 (z7 HB.out) hb); clear hb hbox hg; obtain ⟨Ao16, co16, eo16⟩ := Kd.S_slice HO216.out; subst eo16; obtain ⟨hczL_0, hczL_1, hfzL_0, hfzL_1⟩ := bk2 BK220.out) | ((with_reducible refine q0j (f := 55) rfl ?_); refine q1d (some 20) rfl rfl Tryd.func55 (by kernel_rfl) rfl #[.agg #[.slice Ao16 t214.length co16, .bool t217], .agg #[.int .i64 5, .int .i64 0, .int .i64 t218, .int .i64 (-1), .string (⟨#[]⟩ : ByteArray), .string (⟨#[]⟩ : ByteArray), .int .i64 0, .string (⟨#[]⟩ : ByteArray), .slice none 0 0, .string (⟨#[]⟩ : ByteArray), .int .i64 0, .slice none 0 0]] rfl zc ?_; (refine (dom_Apply.calls k _ _ t214 t217 5 0 t218 (-1) (⟨#[]⟩ : ByteArray) (⟨#[]⟩ : ByteArray) 0 (⟨#[]⟩ : ByteArray) _ _ ([] : List (S122)) (⟨#[]⟩ : ByteArray) 0 _ _ ([] : List Int) t221 t224 t225 t226 _ ?side1 ?side2 ?side3 ?side4 ?side5 ?side6 A3.out).mono ?_); (case side1 => refine (Kd.S_reads' (e := 43) (base := w.heap.size) (ok := fun k_ => (True ∧ some k_ ≠ (.slice Ao13 t210.length co13 : Value).ownBlock)) (n := t214.length) (c := co16) ?_).2.2; exact (by (with_reducible repeat (first | apply sA | apply sN | apply sD)); exact (Kd.S_mono (Kd.S_far (p := ⟨gb220, 1, none⟩) (Kd.S_far (p := ⟨gb220, 0, none⟩) (Kd.S_types HO216.out BK220.out (by decide)) (fun _ hk => hk.2) (.slice Ao16 t214.length co16)) (fun _ hk => hk.2) (.bool t217)) (fun _ h_ => h_.1)))); (case side2 => exact (Kd.S_reads' HO216.out).2.1); (case side3 => exact Kd.C_nil _ _); (case side4 => exact Nat.le_refl _); (case side5 => exact Kd.C_nil _ _); (case side6 => exact Nat.le_refl _); rintro e w18 ⟨v222, rfl, ho0, hb⟩; refine ⟨_, rfl, ?_⟩; have n0_ := aS (Kd.S_elder' (by (with_reducible repeat (first | apply sA | apply sN | apply sD)); exact (Kd.S_mono (Kd.S_far (p := ⟨gb220, 1, none⟩) (Kd.S_far (p := ⟨gb220, 0, none⟩) (Kd.S_types HO212.out BK220.out (by decide)) (fun _ hk => hk.2) (.slice Ao16 t214.length co16)) (fun _ hk => hk.2) (.bool t217)) (fun _ h_ => h_.1))) (Kd.S_base ho0) hb); have n1_ := aS (Kd.S_elder' (by (with_reducible repeat (first | apply sA | apply sN | apply sD)); exact (Kd.S_mono (Kd.S_far (p := ⟨gb220, 1, none⟩) (Kd.S_far (p := ⟨gb220, 0, none⟩) (Kd.S_types HO216.out BK220.out (by decide)) (fun _ hk => hk.2) (.slice Ao16 t214.length co16)) (fun _ hk => hk.2) (.bool t217)) (fun _ h_ => h_.1))) (Kd.S_base ho0) hb); have n2_ := aS (Kd.S_lower (Kd.S_new' (Kd.S_new' ho0 (Kd.S_lt (by (with_reducible repeat (first | apply sA | apply sN | apply sD)); exact (Kd.S_mono (Kd.S_far (p := ⟨gb220, 1, none⟩) (Kd.S_far (p := ⟨gb220, 0, none⟩) (Kd.S_types HO212.out BK220.out (by decide)) (fun _ hk => hk.2) (.slice Ao16 t214.length co16)) (fun _ hk => hk.2) (.bool t217)) (fun _ h_ => h_.1))))) (Kd.S_lt (by (with_reducible repeat (first | apply sA | apply sN | apply sD)); exact (Kd.S_mono (Kd.S_far (p := ⟨gb220, 1, none⟩) (Kd.S_far (p := ⟨gb220, 0, none⟩) (Kd.S_types HO216.out BK220.out (by decide)) (fun _ hk => hk.2) (.slice Ao16 t214.length co16)) (fun _ hk => hk.2) (.bool t217)) (fun _ h_ => h_.1))))) (q0c (z6 HB.out GE220.out))); have n3_ := aS (q02 (g := gb220) (o := .cells #[.slice Ao16 t214.length co16, .bool t217] 24 (0, 0)) (by (with_reducible repeat (first | refine kN ?_ _ | refine kD ?_ | refine kA ?_ _)); refine q0o (cs := #[.slice Ao16 t214.length co16, .bool false]) ?_ 1 _ rfl; (with_reducible repeat (first | refine kN ?_ _ | refine kD ?_ | refine kA ?_ _)); refine q0o (cs := #[.slice none 0 0, .bool false]) ?_ 0 _ rfl; (with_reducible repeat (first | refine kN ?_ _ | refine kD ?_ | refine kA ?_ _)); exact BK220.out) hb); have n4_ := aS (q01 (z6 HB.out GE220.out) hb); clear HO212; clear HO216; clear BK220; clear HB; have HO212 := n0_; have HO216 := n1_; have HO223 := n2_; have BK220 := n3_; have HB := n4_; clear n0_ n1_ n2_ n3_ n4_; (try clear hb); (try clear hb2); (try clear hk); (try clear hi); (try clear ho0); obtain ⟨Ao19, co19, eo19⟩ := Kd.S_slice HO223.out; subst eo19; obtain ⟨hczL_0, hczL_1, hfzL_0, hfzL_1⟩ := bk2 BK220.out) | ((with_reducible refine q0j (f := 59) rfl ?_); refine q1d (some 26) rfl rfl Tryd.func59 (by kernel_rfl) rfl #[.agg #[.slice Ao19 t221.length co19, .bool t224]] rfl zc ?_; (with_reducible refine (dom_Order.calls k _ _ t221 t224 t227 t230 _ ?side1 ?side2 A4.out).mono ?_); (case side1 => refine (Kd.S_reads' (e := 43) (base := w.heap.size) (ok := fun k_ => ((True ∧ some k_ ≠ (.slice Ao13 t210.length co13 : Value).ownBlock) ∧ some k_ ≠ (.slice Ao16 t214.length co16 : Value).ownBlock)) (n := t221.length) (c := co19) ?_).2.2; exact (by (with_reducible repeat (first | apply sA | apply sN | apply sD)); exact (Kd.S_mono (Kd.S_far (p := ⟨gb220, 1, none⟩) (Kd.S_far (p := ⟨gb220, 0, none⟩) (Kd.S_types HO223.out BK220.out (by decide)) (fun _ hk => hk.2) (.slice Ao19 t221.length co19)) (fun _ hk => hk.2) (.bool t224)) (fun _ h_ => h_.1)))); (case side2 => exact (Kd.S_reads' HO223.out).2.1); rintro e w21 ⟨v228, rfl, ho0, hb⟩; refine ⟨_, rfl, ?_⟩; replace HO212 := aS (Kd.S_elder' (by (with_reducible repeat (first | apply sA | apply sN | apply sD)); exact (Kd.S_mono (Kd.S_far (p := ⟨gb220, 1, none⟩) (Kd.S_far (p := ⟨gb220, 0, none⟩) (Kd.S_types HO212.out BK220.out (by decide)) (fun _ hk => hk.2) (.slice Ao19 t221.length co19)) (fun _ hk => hk.2) (.bool t224)) (fun _ h_ => h_.1))) (Kd.R_base ho0) hb); replace HO216 := aS (Kd.S_elder' (by (with_reducible repeat (first | apply sA | apply sN | apply sD)); exact (Kd.S_mono (Kd.S_far (p := ⟨gb220, 1, none⟩) (Kd.S_far (p := ⟨gb220, 0, none⟩) (Kd.S_types HO216.out BK220.out (by decide)) (fun _ hk => hk.2) (.slice Ao19 t221.length co19)) (fun _ hk => hk.2) (.bool t224)) (fun _ h_ => h_.1))) (Kd.R_base ho0) hb); replace HO223 := aS (Kd.S_elder' (by (with_reducible repeat (first | apply sA | apply sN | apply sD)); exact (Kd.S_mono (Kd.S_far (p := ⟨gb220, 1, none⟩) (Kd.S_far (p := ⟨gb220, 0, none⟩) (Kd.S_types HO223.out BK220.out (by decide)) (fun _ hk => hk.2) (.slice Ao19 t221.length co19)) (fun _ hk => hk.2) (.bool t224)) (fun _ h_ => h_.1))) (Kd.R_base ho0) hb); have HO229 := aS (Kd.R_lower ho0 (q0c (z6 HB.out GE220.out))); replace BK220 := aS (q02 (g := gb220) (o := .cells #[.slice Ao19 t221.length co19, .bool t224] 24 (0, 0)) (by (with_reducible repeat (first | refine kN ?_ _ | refine kD ?_ | refine kA ?_ _)); refine q0o (cs := #[.slice Ao19 t221.length co19, .bool t217]) ?_ 1 _ rfl; (with_reducible repeat (first | refine kN ?_ _ | refine kD ?_ | refine kA ?_ _)); refine q0o (cs := #[.slice Ao16 t214.length co16, .bool t217]) ?_ 0 _ rfl; (with_reducible repeat (first | refine kN ?_ _ | refine kD ?_ | refine kA ?_ _)); exact BK220.out) hb); replace HB := aS (q01 (z6 HB.out GE220.out) hb); (try clear hb); (try clear hb2); (try clear hk); (try clear hi); (try clear ho0)) | ((with_reducible refine q07 (N := 45) rfl ?_); (try (refine q12 (by rfl) ?_; dsimp only)); refine Kd.R_lit (Kd.int .i64) _ 3 ?hg (N := 45) ?hd (xs := ([0, 1] : List Int)) (inner := [.int .i64 0, .int .i64 1]) (ok := fun _ => True) (okp := fun _ => True) ?hr ?hp (fun _ hk => hk) trivial (Below.refl _ _) (Nat.le_refl _) (by simp) ?_; (case hd => rfl); (case hg => rfl); (case hr => first | (go_simp; done) | (go_simp; rfl)); (case hp => exact (Reps.one (show Kd.M (Kd.int .i64) _ _ _ 0 [.int .i64 0] from rfl) (Reps.one (show Kd.M (Kd.int .i64) _ _ _ 1 [.int .i64 1] from rfl) (Reps.none _ _)))); intro v232 w22 ho23 hb hg_ hnew_; clear hg_ hnew_; (first | rw [← Ny231.out] at ho23 | (simp only [Int.reduceToNat] at ho23; rw [← Ny231.out] at ho23)); have n0_ := aS (Kd.S_elder' (zg HO212.out) (Kd.R_base ho23) hb); have n1_ := aS (Kd.S_elder' (zg HO216.out) (Kd.R_base ho23) hb); have n2_ := aS (Kd.S_elder' (zg HO223.out) (Kd.R_base ho23) hb); have n3_ := aS (Kd.R_elder' (zf HO229.out) (Kd.R_base ho23) hb); have n4_ := aS (Kd.R_lower (Kd.R_new' ho23 (Kd.R_lt (zf HO229.out))) (q0c (z6 HB.out GE220.out))); have n5_ := aS (q02 (g := gb220) (o := .cells #[.slice Ao19 t221.length co19, .bool t224] 24 (0, 0)) (za BK220.out) hb); have n6_ := aS (q01 (z6 HB.out GE220.out) hb); clear HO212; clear HO216; clear HO223; clear HO229; clear BK220; clear HB; have HO212 := n0_; have HO216 := n1_; have HO223 := n2_; have HO229 := n3_; have HO233 := n4_; have BK220 := n5_; have HB := n6_; clear n0_ n1_ n2_ n3_ n4_ n5_ n6_; clear hb ho23; obtain ⟨Ao24, co24, eo24⟩ := Kd.R_slice HO229.out; subst eo24; obtain ⟨Ao25, co25, eo25⟩ := Kd.R_slice HO233.out; subst eo25) | (go_at_call 30; (with_reducible refine (clerestoryref1_SameInts.calls k _ _ t227 _ _ y231 true _ ?side1 ?side2 ?side3 ?side4 A9.out).mono ?_); (case side1 => repeat (first | exact (Kd.R_reads' HO229.out).2.2 | (with_reducible refine cA ?_ _) | (with_reducible refine cN ?_ _) | (with_reducible refine cD ?_))); (case side2 => exact (Kd.R_reads' HO229.out).2.1); (case side3 => repeat (first | exact (Kd.R_reads' HO233.out).2.2 | (with_reducible refine cA ?_ _) | (with_reducible refine cN ?_ _) | (with_reducible refine cD ?_))); (case side4 => exact (Kd.R_reads' HO233.out).2.1); rintro e w' ⟨rfl, ⟨nd, rfl⟩⟩) | (go_at_call 52; (refine (dom_Check.calls k _ _ ([] : List (S43)) false t235 _ ?side1 ?side2 A11.out).mono ?_); (case side1 => exact Kd.C_nil _ _); (case side2 => exact Nat.le_refl _); rintro e w26 ⟨rfl, hb⟩; replace HO212 := aS (Kd.S_below (zg HO212.out) hb); replace HO216 := aS (Kd.S_below (zg HO216.out) hb); replace HO223 := aS (Kd.S_below (zg HO223.out) hb); replace HO229 := aS (Kd.R_below (zf HO229.out) hb); replace HO233 := aS (Kd.R_below (zf HO233.out) hb); replace BK220 := aS (q02 (g := gb220) (o := .cells #[.slice Ao19 t221.length co19, .bool t224] 24 (0, 0)) (za BK220.out) hb); replace HB := aS (q01 (z6 HB.out GE220.out) hb); (try clear hb); (try clear hb2); (try clear hk); (try clear hi)))
  go_ret
  exact ⟨by first | rfl | (simp [q05, q04] <;> rfl) | (simp [*, q05, q04] <;> rfl), by repeat (first | (with_reducible first | exact HB.out | apply bA | apply bN | apply bD | refine bS ?_ GE220.out) | exact HB.out)⟩
 case n10 => exact absurd H (by simp)
 case n8 => exact absurd H (by simp)
 case n7 => exact absurd H (by simp)
 case n6 => exact absurd H (by simp)
 case n5 => exact absurd H (by simp)
def clerestoryref1_SameAttrs.l0 : Nat → List (S122) → List (S122) → Int → Option (Bool)
 | 0, _, _, _ => none
 | k + 1, x0, x1, x5 => if x5 < (x0.length : Int) then (if 0 ≤ x5 then (if x5 < (x1.length : Int) then (if (!((((q03 x0 x5).f0).toList) == (((q03 x1 x5).f0).toList)) || (!((((q03 x0 x5).f1).toList) == (((q03 x1 x5).f1).toList)))) = true then (some false) else (clerestoryref1_SameAttrs.l0 k x0 x1 (wrap64 (x5 + 1)))) else (none)) else (none)) else (some true)
def clerestoryref1_SameAttrs.f (k : Nat) (l0 : List (S122)) (l1 : List (S122)) : Option (Bool) := if (l0.length : Int) = (l1.length : Int) then (clerestoryref1_SameAttrs.l0 k l0 l1 0) else (some false)
theorem clerestoryref1_SameAttrs.mono_l : ∀ k, (∀ y0 y1 y2, LeO (clerestoryref1_SameAttrs.l0 k y0 y1 y2) (clerestoryref1_SameAttrs.l0 (k + 1) y0 y1 y2))
 | 0 => fun _ _ _ r h => by simp [clerestoryref1_SameAttrs.l0] at h
 | k + 1 => by
  have ih0 := clerestoryref1_SameAttrs.mono_l k
  ·intro y0 y1 y2
   unfold clerestoryref1_SameAttrs.l0
   repeat' first | with_reducible first | apply ih0 | exact LeO.refl _ | exact LeO.none _ | refine LeO.ite ?_ ?_ | refine LeO.bind ?_ (fun _ => ?_) | (first | apply ih0 | exact LeO.none _ | refine LeO.ite ?_ ?_ | refine LeO.bind ?_ (fun _ => ?_))
theorem clerestoryref1_SameAttrs.mono : ∀ a0 a1 k, LeO (clerestoryref1_SameAttrs.f k a0 a1) (clerestoryref1_SameAttrs.f (k + 1) a0 a1) := by
 intro a0 a1 k
 have ih0 := clerestoryref1_SameAttrs.mono_l k
 unfold clerestoryref1_SameAttrs.f
 repeat' first | with_reducible first | apply ih0 | exact LeO.refl _ | exact LeO.none _ | refine LeO.ite ?_ ?_ | refine LeO.bind ?_ (fun _ => ?_) | (first | apply ih0 | exact LeO.none _ | refine LeO.ite ?_ ?_ | refine LeO.bind ?_ (fun _ => ?_))
set_option maxHeartbeats 8000000 in
set_option maxRecDepth 100000 in
theorem clerestoryref1_SameAttrs.calls (k : Nat) (A0 : Option Addr) (c0 : Nat) (l0 : List (S122)) (A1 : Option Addr) (c1 : Nat) (l1 : List (S122)) (r : Bool) (w : World) (hr0 : Kd.C k122 w A0 l0.length l0) (hc0 : l0.length ≤ c0) (hr1 : Kd.C k122 w A1 l1.length l1) (hc1 : l1.length ≤ c1) (h : clerestoryref1_SameAttrs.f k l0 l1 = some r) :
 Calls Tryd.prog 138 #[.slice A0 l0.length c0, .slice A1 l1.length c1] w fun e w' => e = .returned (.bool r) ∧ Drawn0 w w' := by
 have hu122 := Tryd.underlying122
 have HR0 := aS hr0
 have HC0 := aS hc0
 clear hr0 hc0
 have HR1 := aS hr1
 have HC1 := aS hc1
 clear hr1 hc1
 have H : (if (l0.length : Int) = (l1.length : Int) then (clerestoryref1_SameAttrs.l0 k l0 l1 0) else (some false)) = some r := h
 clear h
 by_cases c3 : (l0.length : Int) = (l1.length : Int)
 ·rw [if_pos c3] at H
  have c3b0 : ((l0.length : Int) == (l1.length : Int)) = true := beq_iff_eq.mpr c3
  have c3b1 : ((l0.length : Int) != (l1.length : Int)) = false := bne_eq_false_iff_eq.mpr c3
  have c3b2 : (l0.length == l1.length) = true := by first | simpa using c3 | (simp at c3 ⊢; omega)
  clear c3
  have H' := aS H
  clear H
  go_enter Tryd.func138, Tryd.ntmps138
  go_wp2
  repeat (go_quiet (fail); try go_wp2)
  go_loopg [5] k (fun kq v5 w' => ∃ (x5_1 : Int), v5 = .int .i64 x5_1 ∧ Aside0 (clerestoryref1_SameAttrs.l0 kq l0 l1 x5_1 = some r) ∧ Aside0 (kq ≤ k) ∧ Drawn0 w w')
  case atStart => exact ⟨(0), zi, H', ⟨Nat.le_refl _⟩, by repeat (first | exact Drawn0.refl _ | apply Drawn0.step)⟩
  case round =>
   clear H'
   try clear c1
   try clear p2
   try clear c3
   try clear c3b0
   try clear c3b1
   try clear c3b2
   obtain ⟨x5_1, rfl, HA, HK1, ⟨m1, rfl⟩⟩ := hrel
   cases gk with
   | zero => exact absurd HA.out (by simp [clerestoryref1_SameAttrs.l0])
   | succ k1 =>
    have H := HA.out
    clear HA
    simp only [clerestoryref1_SameAttrs.l0] at H
    by_cases c4 : x5_1 < (l0.length : Int)
    ·rw [if_pos c4] at H
     have c4b0 : decide (x5_1 < (l0.length : Int)) = true := decide_eq_true c4
     clear c4
     by_cases c5 : 0 ≤ x5_1
     ·rw [if_pos c5] at H
      have c5b0 : decide (0 ≤ x5_1) = true := decide_eq_true c5
      clear c5
      by_cases c6 : x5_1 < (l1.length : Int)
      ·rw [if_pos c6] at H
       have c6b0 : decide (x5_1 < (l1.length : Int)) = true := decide_eq_true c6
       clear c6
       by_cases c7 : (!((((q03 l0 x5_1).f0).toList) == (((q03 l1 x5_1).f0).toList)) || (!((((q03 l0 x5_1).f1).toList) == (((q03 l1 x5_1).f1).toList)))) = true
       ·rw [if_pos c7] at H
        have c7b0 : (!((((q03 l0 x5_1).f0).toList) == (((q03 l1 x5_1).f0).toList)) || (!((((q03 l0 x5_1).f1).toList) == (((q03 l1 x5_1).f1).toList)))) = true := c7
        clear c7
        obtain rfl := Option.some.inj H
        have p236 : 0 ≤ (x5_1 : Int) := od zb
        have q236 : x5_1 < (l0.length : Int) := od zb
        obtain ⟨ad236, e236, hx236_0, hx236_1⟩ := at_T122 HR0.out x5_1 p236 q236
        cases e236
        replace p236 := eq_true p236
        replace q236 := eq_true q236
        have p237 : 0 ≤ (x5_1 : Int) := od zb
        have q237 : x5_1 < (l1.length : Int) := od zb
        obtain ⟨ad237, e237, hx237_0, hx237_1⟩ := at_T122 HR1.out x5_1 p237 q237
        cases e237
        replace p237 := eq_true p237
        replace q237 := eq_true q237
        go_wp2
        repeat (go_quiet (fail); try go_wp2)
        go_ret
        exact ⟨by first | rfl | (simp; done) | (simp [*]; done), by repeat (first | exact Drawn0.refl _ | apply Drawn0.step)⟩
       ·rw [if_neg c7] at H
        have c7b0 : (!((((q03 l0 x5_1).f0).toList) == (((q03 l1 x5_1).f0).toList)) || (!((((q03 l0 x5_1).f1).toList) == (((q03 l1 x5_1).f1).toList)))) = false := by simpa using c7
        clear c7
        have H' := aS H
        clear H
        have p236 : 0 ≤ (x5_1 : Int) := od zb
        have q236 : x5_1 < (l0.length : Int) := od zb
        obtain ⟨ad236, e236, hx236_0, hx236_1⟩ := at_T122 HR0.out x5_1 p236 q236
        cases e236
        replace p236 := eq_true p236
        replace q236 := eq_true q236
        have p237 : 0 ≤ (x5_1 : Int) := od zb
        have q237 : x5_1 < (l1.length : Int) := od zb
        obtain ⟨ad237, e237, hx237_0, hx237_1⟩ := at_T122 HR1.out x5_1 p237 q237
        cases e237
        replace p237 := eq_true p237
        replace q237 := eq_true q237
        go_wp2
        repeat (go_quiet (fail); try go_wp2)
        go_roundg k1
        case measure => have := HK1.out; omega
        case rel => exact ⟨(wrap64 (x5_1 + 1)), zi, H', ⟨by have := HK1.out; omega⟩, by repeat (first | exact Drawn0.refl _ | apply Drawn0.step)⟩
      ·rw [if_neg c6] at H
       exact absurd H (by simp)
     ·rw [if_neg c5] at H
      exact absurd H (by simp)
    ·rw [if_neg c4] at H
     have c4b0 : decide (x5_1 < (l0.length : Int)) = false := decide_eq_false c4
     clear c4
     obtain rfl := Option.some.inj H
     go_wp2
     repeat (go_quiet (fail); try go_wp2)
     go_ret
     exact ⟨by first | rfl | (simp; done) | (simp [*]; done), by repeat (first | exact Drawn0.refl _ | apply Drawn0.step)⟩
 ·rw [if_neg c3] at H
  have c3b0 : ((l0.length : Int) == (l1.length : Int)) = false := beq_eq_false_iff_ne.mpr c3
  have c3b1 : ((l0.length : Int) != (l1.length : Int)) = true := bne_iff_ne.mpr c3
  have c3b2 : (l0.length == l1.length) = false := by first | simpa using c3 | (simp at c3 ⊢; omega)
  obtain rfl := Option.some.inj H
  go_enter Tryd.func138, Tryd.ntmps138
  go_wp2
  repeat (go_quiet (fail); try go_wp2)
  go_ret
  exact ⟨by first | rfl | (simp; done) | (simp [*]; done), by repeat (first | exact Drawn0.refl _ | apply Drawn0.step)⟩
def clerestoryref1_SameNode.f (k : Nat) (a0_0 : Int) (a0_1 : ByteArray) (l0_2 : List (S122)) (a0_3 : ByteArray) (a0_4 : Int) (l0_5 : List Int) (a1_0 : Int) (a1_1 : ByteArray) (l1_2 : List (S122)) (a1_3 : ByteArray) (a1_4 : Int) (l1_5 : List Int) : Option (Bool) := if a0_0 = a1_0 then (if a0_1.toList = a1_1.toList then (if a0_3.toList = a1_3.toList then (if a0_4 = a1_4 then ((clerestoryref1_SameAttrs.f k l0_2 l1_2).bind fun t240 => (if t240 = true then ((clerestoryref1_SameInts.f k l0_5 l1_5).bind fun t241 => (some t241)) else (none))) else (none)) else (none)) else (none)) else (none)
theorem clerestoryref1_SameNode.mono : ∀ a0 a1 a2 a3 a4 a5 a6 a7 a8 a9 a10 a11 k, LeO (clerestoryref1_SameNode.f k a0 a1 a2 a3 a4 a5 a6 a7 a8 a9 a10 a11) (clerestoryref1_SameNode.f (k + 1) a0 a1 a2 a3 a4 a5 a6 a7 a8 a9 a10 a11) := by
 intro a0 a1 a2 a3 a4 a5 a6 a7 a8 a9 a10 a11 k
 unfold clerestoryref1_SameNode.f
 repeat' first | with_reducible first | apply clerestoryref1_SameAttrs.mono | apply clerestoryref1_SameInts.mono | exact LeO.refl _ | exact LeO.none _ | refine LeO.ite ?_ ?_ | refine LeO.bind ?_ (fun _ => ?_) | (first | apply clerestoryref1_SameAttrs.mono | apply clerestoryref1_SameInts.mono | exact LeO.none _ | refine LeO.ite ?_ ?_ | refine LeO.bind ?_ (fun _ => ?_))
set_option maxHeartbeats 8000000 in
set_option maxRecDepth 100000 in
theorem clerestoryref1_SameNode.calls (k : Nat) (a0_0 : Int) (a0_1 : ByteArray) (A0_2 : Option Addr) (c0_2 : Nat) (l0_2 : List (S122)) (a0_3 : ByteArray) (a0_4 : Int) (A0_5 : Option Addr) (c0_5 : Nat) (l0_5 : List Int) (a1_0 : Int) (a1_1 : ByteArray) (A1_2 : Option Addr) (c1_2 : Nat) (l1_2 : List (S122)) (a1_3 : ByteArray) (a1_4 : Int) (A1_5 : Option Addr) (c1_5 : Nat) (l1_5 : List Int) (r : Bool) (w : World) (hr0_2 : Kd.C k122 w A0_2 l0_2.length l0_2) (hc0_2 : l0_2.length ≤ c0_2) (hr0_5 : Kd.C (Kd.int .i64) w A0_5 l0_5.length l0_5) (hc0_5 : l0_5.length ≤ c0_5) (hr1_2 : Kd.C k122 w A1_2 l1_2.length l1_2) (hc1_2 : l1_2.length ≤ c1_2) (hr1_5 : Kd.C (Kd.int .i64) w A1_5 l1_5.length l1_5) (hc1_5 : l1_5.length ≤ c1_5) (h : clerestoryref1_SameNode.f k a0_0 a0_1 l0_2 a0_3 a0_4 l0_5 a1_0 a1_1 l1_2 a1_3 a1_4 l1_5 = some r) :
 Calls Tryd.prog 103 #[.agg #[.int .i64 a0_0, .string a0_1, .slice A0_2 l0_2.length c0_2, .string a0_3, .int .i64 a0_4, .slice A0_5 l0_5.length c0_5], .agg #[.int .i64 a1_0, .string a1_1, .slice A1_2 l1_2.length c1_2, .string a1_3, .int .i64 a1_4, .slice A1_5 l1_5.length c1_5]] w fun e w' => e = .returned (.bool r) ∧ Below w.heap.size w w' := by
 have hu43 := Tryd.underlying43
 have HR0_2 := aS hr0_2
 have HC0_2 := aS hc0_2
 clear hr0_2 hc0_2
 have HR0_5 := aS hr0_5
 have HC0_5 := aS hc0_5
 clear hr0_5 hc0_5
 have HR1_2 := aS hr1_2
 have HC1_2 := aS hc1_2
 clear hr1_2 hc1_2
 have HR1_5 := aS hr1_5
 have HC1_5 := aS hc1_5
 clear hr1_5 hc1_5
 have HB := aS (Below.refl w.heap.size w)
 have H := h; clear h; unfold clerestoryref1_SameNode.f at H
 refine iE H ?p3 ?n3 <;> clear H
 case' p3 => intro c3b0 c3b1 H; refine iE H ?p4 ?n4 <;> clear H
 case' p4 => intro c4b0 c4b1 H; refine iE H ?p5 ?n5 <;> clear H
 case' p5 => intro c5b0 c5b1 H; refine iE H ?p6 ?n6 <;> clear H
 case' p6 => intro c6b0 c6b1 H; replace H := iB H; obtain ⟨t240, A7, H⟩ := H; refine iV H ?p8 ?n8 <;> clear H
 case' p8 => intro c8 H; subst c8
 case' n8 => intro c8 H; subst c8
 case' n6 => intro c6 c6b0 c6b1 H
 case' n5 => intro c5 c5b0 c5b1 H
 case' n4 => intro c4 c4b0 c4b1 H
 case' n3 => intro c3 c3b0 c3b1 H
 case p8 =>
  replace H := iB H
  obtain ⟨t241, A9, H⟩ := H
  obtain rfl := Option.some.inj H
  go_enter Tryd.func103, Tryd.ntmps103
  go_wp2_with (first | ((with_reducible refine q07 (N := 2) rfl ?_); refine box0 rfl (N := 2) rfl (cs := #[.int .i64 a0_0, .string a0_1, .slice A0_2 l0_2.length c0_2, .string a0_3, .int .i64 a0_4, .slice A0_5 l0_5.length c0_5]) (t := 43) zh (z7 HB.out) ?_; clear HB; intro gb238 w10 BK238 GW238 HB; have GE238 := GW238) | ((with_reducible refine q07 (N := 3) rfl ?_); refine q0t ?hg (N := 3) ?hd (cs := #[.int .i64 a1_0, .string a1_1, .slice A1_2 l1_2.length c1_2, .string a1_3, .int .i64 a1_4, .slice A1_5 l1_5.length c1_5]) (t := 43) ?hr ?_; (case hd => rfl); (case hg => rfl); (case hr => first | (go_simp; done) | (go_simp; rfl)); intro gb239 hg w11 hbox hb; have n0_ := aS (q02 (g := gb238) (o := .cells #[.int .i64 a0_0, .string a0_1, .slice A0_2 l0_2.length c0_2, .string a0_3, .int .i64 a0_4, .slice A0_5 l0_5.length c0_5] 43 (0, 0)) (za BK238.out) hb); have n1_ := aS (q01 (z6 HB.out GE238.out) hb); have n2_ := aS (hbox); have n3_ := aS ((by rw [hg]; exact (q0c (z6 HB.out GE238.out)) : w.heap.size ≤ gb239)); have n4_ := aS ((by rw [hg]; exact (q0c (z6 HB.out GE238.out)) : w.heap.size ≤ gb239)); have n5_ := aS ((by rw [hg]; exact Nat.ne_of_lt (q0a (g := gb238) (o := .cells #[.int .i64 a0_0, .string a0_1, .slice A0_2 l0_2.length c0_2, .string a0_3, .int .i64 a0_4, .slice A0_5 l0_5.length c0_5] 43 (0, 0)) (za BK238.out)) : gb238 ≠ gb239)); have n6_ := aS ((by rw [hg]; exact Nat.ne_of_gt (q0a (g := gb238) (o := .cells #[.int .i64 a0_0, .string a0_1, .slice A0_2 l0_2.length c0_2, .string a0_3, .int .i64 a0_4, .slice A0_5 l0_5.length c0_5] 43 (0, 0)) (za BK238.out)) : gb239 ≠ gb238)); clear BK238; clear HB; have BK238 := n0_; have HB := n1_; have BK239 := n2_; have GW239 := n3_; have GE239 := n4_; have NB238_239 := n5_; have NB239_238 := n6_; clear n0_ n1_ n2_ n3_ n4_ n5_ n6_; clear hb hbox hg; have hnb12 := NB238_239.out; have hnc12 := NB239_238.out; obtain ⟨hczL_0, hczL_1, hczL_2, hczL_3, hczL_4, hczL_5, hfzL_0, hfzL_1, hfzL_2, hfzL_3, hfzL_4, hfzL_5⟩ := bk6 BK238.out; obtain ⟨hczL_0, hczL_1, hczL_2, hczL_3, hczL_4, hczL_5, hfzL_0, hfzL_1, hfzL_2, hfzL_3, hfzL_4, hfzL_5⟩ := bk6 BK239.out) | (go_at_call 138; (with_reducible refine (clerestoryref1_SameAttrs.calls k _ _ l0_2 _ _ l1_2 true _ ?side1 ?side2 ?side3 ?side4 A7.out).mono ?_); (case side1 => repeat (first | exact (Kd.C_below HR0_2.out HB.out) | (with_reducible refine cA ?_ _) | (with_reducible refine cN ?_ _) | (with_reducible refine cD ?_))); (case side2 => exact HC0_2.out); (case side3 => repeat (first | exact (Kd.C_below HR1_2.out HB.out) | (with_reducible refine cA ?_ _) | (with_reducible refine cN ?_ _) | (with_reducible refine cD ?_))); (case side4 => exact HC1_2.out); rintro e w' ⟨rfl, ⟨nd, rfl⟩⟩) | (go_at_call 30; (with_reducible refine (clerestoryref1_SameInts.calls k _ _ l0_5 _ _ l1_5 t241 _ ?side1 ?side2 ?side3 ?side4 A9.out).mono ?_); (case side1 => repeat (first | exact (Kd.C_below HR0_5.out (by repeat (first | (with_reducible first | exact HB.out | apply bA | apply bN | apply bD | refine bS ?_ GE238.out | refine bS ?_ GE239.out) | exact HB.out))) | (with_reducible refine cA ?_ _) | (with_reducible refine cN ?_ _) | (with_reducible refine cD ?_))); (case side2 => exact HC0_5.out); (case side3 => repeat (first | exact (Kd.C_below HR1_5.out (by repeat (first | (with_reducible first | exact HB.out | apply bA | apply bN | apply bD | refine bS ?_ GE238.out | refine bS ?_ GE239.out) | exact HB.out))) | (with_reducible refine cA ?_ _) | (with_reducible refine cN ?_ _) | (with_reducible refine cD ?_))); (case side4 => exact HC1_5.out); rintro e w' ⟨rfl, ⟨nd, rfl⟩⟩))
  go_ret
  exact ⟨by first | rfl | (simp [q05, q04] <;> rfl) | (simp [*, q05, q04] <;> rfl), by repeat (first | (with_reducible first | exact HB.out | apply bA | apply bN | apply bD | refine bS ?_ GE238.out | refine bS ?_ GE239.out) | exact HB.out)⟩
 case n8 => exact absurd H (by simp)
 case n6 => exact absurd H (by simp)
 case n5 => exact absurd H (by simp)
 case n4 => exact absurd H (by simp)
 case n3 => exact absurd H (by simp)
end Go.Proofs.YthjnallbbhnndaaDoor.XDe
namespace Go.Proofs.YthjnallbbhnndaaDoor.XDe
open Go.Proofs.YthjnallbbhnndaaDoor.Short Go.RowKit Go.Proofs.YthjnallbbhnndaaDoorW.PrintWords Go.Proofs.YthjnallbbhnndaaDoorW.PrintLast Go.Proofs.YthjnallbbhnndaaDoorW.PrintMore
attribute [local go_sem] q16 q14 q1g q1f q0s q0r q15 q13   -- for this text's walks alone
set_option linter.unusedVariables false
set_option linter.unusedSimpArgs false
def clerestoryref1_SameDoc.l0 (k : Nat) : Nat → Int → List S43 → List S43 → Option Bool
  | 0, _, _, _ => none
  | j + 1, i, la, lb => if i < (la.length : Int) then (if 0 ≤ i ∧ i < (lb.length : Int) then (clerestoryref1_SameNode.f k (q00 la i).f0 (q00 la i).f1 (q00 la i).f2 (q00 la i).f3 (q00 la i).f4 (q00 la i).f5 (q00 lb i).f0 (q00 lb i).f1 (q00 lb i).f2 (q00 lb i).f3 (q00 lb i).f4 (q00 lb i).f5).bind fun t => if t = true then clerestoryref1_SameDoc.l0 k j (wrap64 (i + 1)) la lb else none else none) else some true
def clerestoryref1_SameDoc.f (k : Nat) (la : List S43) (q : Bool) (lb : List S43) (q1 : Bool) : Option Bool := if la.length = lb.length ∧ q = q1 then clerestoryref1_SameDoc.l0 k k 0 la lb else none
set_option maxHeartbeats 8000000 in
set_option maxRecDepth 100000 in
theorem clerestoryref1_SameDoc.calls (k : Nat) (Aa : Option Addr) (ca : Nat) (la : List S43) (q : Bool) (Ab : Option Addr) (cb : Nat) (lb : List S43) (q1 : Bool) (r : Bool) (w : World) (hra : Kd.C k43 w Aa la.length la) (hca : la.length ≤ ca) (hrb : Kd.C k43 w Ab lb.length lb) (hcb : lb.length ≤ cb) (h : clerestoryref1_SameDoc.f k la q lb q1 = some r) :
    Calls Tryd.prog 53 #[.agg #[.slice Aa la.length ca, .bool q], .agg #[.slice Ab lb.length cb, .bool q1]] w fun e w' => e = .returned (.bool r) ∧ Below w.heap.size w w' := by
  have hu24 := Tryd.underlying24
  have hu43 := Tryd.underlying43
  have hu22 := Tryd.underlying22
  have HCA := Aside0.mk hra
  have HCB := Aside0.mk hrb
  clear hra hca hrb hcb
  unfold clerestoryref1_SameDoc.f at h
  refine iGp h ?_
  clear h
  intro ⟨hlen, hq⟩ h
  subst hq
  have H2 := Aside0.mk h
  clear h
  have n1 : ((la.length : Int) != (lb.length : Int)) = false := bne_eq_false_iff_eq.mpr (by rw [hlen])
  have n2 : (q != q) = false := bne_self_eq_false q
  clear hlen
  go_enter Tryd.func53, Tryd.ntmps53
  go_upto_region 1 with (first | ((with_reducible refine q07 (N := 2) rfl ?_); refine box1 rfl (N := 2) rfl (cs := #[.slice Aa la.length ca, .bool q]) (t := 24) zh ?_; intro gd wd DK GD DS) | ((with_reducible refine q07 (N := 3) rfl ?_); refine box1 rfl (N := 3) rfl (cs := #[.slice Ab lb.length cb, .bool q]) (t := 24) zh ?_; intro ge we EK GE ES))
  have HB := Aside0.mk (q01 DS.out ES.out)
  have n_DK := Aside0.mk (q02 DK.out ES.out)
  clear DK DS ES GD GE
  have DK := n_DK
  clear n_DK
  obtain ⟨hd0, hd1, -, -⟩ := bk2 DK.out
  obtain ⟨he0, he1, -, -⟩ := bk2 EK.out
  go_wp2
  go_loopg [5] k (fun kq v5 w' => ∃ (i : Int), v5 = .int .i64 i ∧ Aside0 (clerestoryref1_SameDoc.l0 k kq i la lb = some r) ∧ Aside0 (w'.heap[gd]? = some (.cells #[.slice Aa la.length ca, .bool q] 24 (0, 0))) ∧ Aside0 (w'.heap[ge]? = some (.cells #[.slice Ab lb.length cb, .bool q] 24 (0, 0))) ∧ Aside0 (Below w.heap.size w w'))
  case atStart => exact ⟨0, rfl, H2, DK, EK, HB⟩
  case round =>
   clear hd0 hd1 he0 he1 H2 DK EK HB n1 n2
   obtain ⟨i, rfl, HA, DK, EK, HB⟩ := hrel
   cases gk with
   | zero => exact absurd HA.out (by simp [clerestoryref1_SameDoc.l0])
   | succ k1 =>
    have H := HA.out
    clear HA
    unfold clerestoryref1_SameDoc.l0 at H
    obtain ⟨hd0, hd1, -, -⟩ := bk2 DK.out
    obtain ⟨he0, he1, -, -⟩ := bk2 EK.out
    refine iG H ?p10 ?n10 <;> clear H
    case' p10 => intro c10 H
    case' n10 => intro c10 H
    case p10 =>
     refine iGp H ?_
     clear H
     intro ⟨c11, c12⟩ H
     obtain ⟨t, ht, H⟩ := Option.bind_eq_some_iff.1 H
     refine iGp H ?_
     clear H
     intro ht1 H
     have HN : Aside0 (clerestoryref1_SameNode.f k (q00 la i).f0 (q00 la i).f1 (q00 la i).f2 (q00 la i).f3 (q00 la i).f4 (q00 la i).f5 (q00 lb i).f0 (q00 lb i).f1 (q00 lb i).f2 (q00 lb i).f3 (q00 lb i).f4 (q00 lb i).f5 = some true) := ⟨by rw [← ht1]; exact ht⟩
     have H3 := Aside0.mk H
     clear ht ht1 H
     obtain ⟨ad, P2, P2c, P5, P5c, e_, x0, x1, x2, x3, x4, x5, l2, C2, l5, C5⟩ := at_T43 HCA.out i c11 c10
     have HP2 := Aside0.mk C2
     have LP2 := Aside0.mk l2
     have HP5 := Aside0.mk C5
     have LP5 := Aside0.mk l5
     clear C2 l2 C5 l5
     subst e_
     replace x0 := (HB.out.cell (World.block_lt_of_cell? _ _ x0)).trans x0
     replace x1 := (HB.out.cell (World.block_lt_of_cell? _ _ x1)).trans x1
     replace x2 := (HB.out.cell (World.block_lt_of_cell? _ _ x2)).trans x2
     replace x3 := (HB.out.cell (World.block_lt_of_cell? _ _ x3)).trans x3
     replace x4 := (HB.out.cell (World.block_lt_of_cell? _ _ x4)).trans x4
     replace x5 := (HB.out.cell (World.block_lt_of_cell? _ _ x5)).trans x5
     obtain ⟨bd, Q2, Q2c, Q5, Q5c, e_, y0, y1, y2, y3, y4, y5, l2, C2, l5, C5⟩ := at_T43 HCB.out i c11 c12
     have HQ2 := Aside0.mk C2
     have LQ2 := Aside0.mk l2
     have HQ5 := Aside0.mk C5
     have LQ5 := Aside0.mk l5
     clear C2 l2 C5 l5
     subst e_
     replace y0 := (HB.out.cell (World.block_lt_of_cell? _ _ y0)).trans y0
     replace y1 := (HB.out.cell (World.block_lt_of_cell? _ _ y1)).trans y1
     replace y2 := (HB.out.cell (World.block_lt_of_cell? _ _ y2)).trans y2
     replace y3 := (HB.out.cell (World.block_lt_of_cell? _ _ y3)).trans y3
     replace y4 := (HB.out.cell (World.block_lt_of_cell? _ _ y4)).trans y4
     replace y5 := (HB.out.cell (World.block_lt_of_cell? _ _ y5)).trans y5
     have c10b : decide (i < (la.length : Int)) = true := decide_eq_true c10
     have c12b : decide (i < (lb.length : Int)) = true := decide_eq_true c12
     have c11b : decide (0 ≤ i) = true := decide_eq_true c11
     have p0 := eq_true c11
     have p1_ := eq_true c10
     have p2_ := eq_true c12
     clear c10 c11 c12
     go_upto_region 6 with (fail)
     refine start_ (n := 12) (S := fun w' => w'.cell? ⟨gd, 0, none⟩ = some (.slice (some ad) la.length ca) ∧ w'.cell? ⟨ge, 0, none⟩ = some (.slice (some bd) lb.length cb) ∧ w'.cell? (ad.add (i.toNat * 6)) = some (.int .i64 (q00 la i).f0) ∧ w'.cell? (⟨(ad.add (i.toNat * 6)).block, (ad.add (i.toNat * 6)).off + 1, none⟩) = some (.string (q00 la i).f1) ∧ w'.cell? (⟨(ad.add (i.toNat * 6)).block, (ad.add (i.toNat * 6)).off + 2, none⟩) = some (.slice P2 (q00 la i).f2.length P2c) ∧ w'.cell? (⟨(ad.add (i.toNat * 6)).block, (ad.add (i.toNat * 6)).off + 3, none⟩) = some (.string (q00 la i).f3) ∧ w'.cell? (⟨(ad.add (i.toNat * 6)).block, (ad.add (i.toNat * 6)).off + 4, none⟩) = some (.int .i64 (q00 la i).f4) ∧ w'.cell? (⟨(ad.add (i.toNat * 6)).block, (ad.add (i.toNat * 6)).off + 5, none⟩) = some (.slice P5 (q00 la i).f5.length P5c) ∧ w'.cell? (bd.add (i.toNat * 6)) = some (.int .i64 (q00 lb i).f0) ∧ w'.cell? (⟨(bd.add (i.toNat * 6)).block, (bd.add (i.toNat * 6)).off + 1, none⟩) = some (.string (q00 lb i).f1) ∧ w'.cell? (⟨(bd.add (i.toNat * 6)).block, (bd.add (i.toNat * 6)).off + 2, none⟩) = some (.slice Q2 (q00 lb i).f2.length Q2c) ∧ w'.cell? (⟨(bd.add (i.toNat * 6)).block, (bd.add (i.toNat * 6)).off + 3, none⟩) = some (.string (q00 lb i).f3) ∧ w'.cell? (⟨(bd.add (i.toNat * 6)).block, (bd.add (i.toNat * 6)).off + 4, none⟩) = some (.int .i64 (q00 lb i).f4) ∧ w'.cell? (⟨(bd.add (i.toNat * 6)).block, (bd.add (i.toNat * 6)).off + 5, none⟩) = some (.slice Q5 (q00 lb i).f5.length Q5c)) (ds := [10]) #[false, false, false, false, false, false, false, false, false, false, false, false] (by kernel_rfl) rfl rfl ⟨hd0, he0, x0, x1, x2, x3, x4, x5, y0, y1, y2, y3, y4, y5⟩ (fun hHeld => ?_)
     refine q0n (i := 0) (N := some 27) (v := ?_) (a' := ?_) #[true, false, false, false, false, false, false, false, false, false, false, false] rfl rfl (by kernel_rfl) (fun _ _ _ h => h) (Or.inl ⟨by rfl, ?_⟩) ?_ ?_
     rotate_left
     ·intro w'
      go_simp
      with_reducible rfl
     rotate_left
     ·simp only [Act.put, List.setIfInBounds_toArray, List.set_cons_zero, List.set_cons_succ, q0d, q0e]
      rfl
     refine q0n (i := 2) (N := some 29) (v := ?_) (a' := ?_) #[true, false, true, false, false, false, false, false, false, false, false, false] rfl rfl (by kernel_rfl) (fun _ _ _ h => h) (Or.inl ⟨by rfl, ?_⟩) ?_ ?_
     rotate_left
     ·intro w'
      go_simp
      with_reducible rfl
     rotate_left
     ·simp only [Act.put, List.setIfInBounds_toArray, List.set_cons_zero, List.set_cons_succ, q0d, q0e]
      rfl
     refine q0n (i := 5) (N := some 32) (v := ?_) (a' := ?_) #[true, false, true, false, false, true, false, false, false, false, false, false] rfl rfl (by kernel_rfl) (fun _ _ _ h => h) (Or.inl ⟨by rfl, ?_⟩) ?_ ?_
     rotate_left
     ·intro w'
      go_simp
      with_reducible rfl
     rotate_left
     ·simp only [Act.put, List.setIfInBounds_toArray, List.set_cons_zero, List.set_cons_succ, q0d, q0e]
      rfl
     refine q0n (i := 7) (N := some 34) (v := ?_) (a' := ?_) #[true, false, true, false, false, true, false, true, false, false, false, false] rfl rfl (by kernel_rfl) (fun _ _ _ h => h) (Or.inl ⟨by rfl, ?_⟩) ?_ ?_
     rotate_left
     ·intro w'
      go_simp
      with_reducible rfl
     rotate_left
     ·simp only [Act.put, List.setIfInBounds_toArray, List.set_cons_zero, List.set_cons_succ, q0d, q0e]
      rfl
     refine take_ (i := 1) (N := some 28) (v := ?_) (a' := ?_) #[true, true, true, false, false, true, false, true, false, false, false, false] rfl rfl (by kernel_rfl) (fun _ _ _ h => h) (Or.inl ⟨by rfl, ?_⟩) hHeld ?_ ?_
     rotate_left
     ·rintro w' ⟨s0, s1, s2, s3, s4, s5, s6, s7, s8, s9, s10, s11, s12, s13⟩
      go_simp
      with_reducible rfl
     rotate_left
     ·simp only [Act.put, List.setIfInBounds_toArray, List.set_cons_zero, List.set_cons_succ, q0d, q0e]
      rfl
     refine q0n (i := 3) (N := some 30) (v := ?_) (a' := ?_) #[true, true, true, true, false, true, false, true, false, false, false, false] rfl rfl (by kernel_rfl) (fun _ _ _ h => h) (Or.inl ⟨by rfl, ?_⟩) ?_ ?_
     rotate_left
     ·intro w'
      go_simp
      with_reducible rfl
     rotate_left
     ·simp only [Act.put, List.setIfInBounds_toArray, List.set_cons_zero, List.set_cons_succ, q0d, q0e]
      rfl
     refine take_ (i := 4) (N := some 31) (v := ?_) (a' := ?_) #[true, true, true, true, true, true, false, true, false, false, false, false] rfl rfl (by kernel_rfl) (fun _ _ _ h => h) (Or.inl ⟨by rfl, ?_⟩) hHeld ?_ ?_
     rotate_left
     ·rintro w' ⟨s0, s1, s2, s3, s4, s5, s6, s7, s8, s9, s10, s11, s12, s13⟩
      go_simp
      with_reducible rfl
     rotate_left
     ·simp only [Act.put, List.setIfInBounds_toArray, List.set_cons_zero, List.set_cons_succ, q0d, q0e]
      rfl
     refine take_ (i := 6) (N := some 33) (v := ?_) (a' := ?_) #[true, true, true, true, true, true, true, true, false, false, false, false] rfl rfl (by kernel_rfl) (fun _ _ _ h => h) (Or.inl ⟨by rfl, ?_⟩) hHeld ?_ ?_
     rotate_left
     ·rintro w' ⟨s0, s1, s2, s3, s4, s5, s6, s7, s8, s9, s10, s11, s12, s13⟩
      go_simp
      with_reducible rfl
     rotate_left
     ·simp only [Act.put, List.setIfInBounds_toArray, List.set_cons_zero, List.set_cons_succ, q0d, q0e]
      rfl
     refine q0n (i := 8) (N := some 35) (v := ?_) (a' := ?_) #[true, true, true, true, true, true, true, true, true, false, false, false] rfl rfl (by kernel_rfl) (fun _ _ _ h => h) (Or.inl ⟨by rfl, ?_⟩) ?_ ?_
     rotate_left
     ·intro w'
      go_simp
      with_reducible rfl
     rotate_left
     ·simp only [Act.put, List.setIfInBounds_toArray, List.set_cons_zero, List.set_cons_succ, q0d, q0e]
      rfl
     refine take_ (i := 9) (N := some 36) (v := ?_) (a' := ?_) #[true, true, true, true, true, true, true, true, true, true, false, false] rfl rfl (by kernel_rfl) (fun _ _ _ h => h) (Or.inl ⟨by rfl, ?_⟩) hHeld ?_ ?_
     rotate_left
     ·rintro w' ⟨s0, s1, s2, s3, s4, s5, s6, s7, s8, s9, s10, s11, s12, s13⟩
      go_simp
      with_reducible rfl
     rotate_left
     ·simp only [Act.put, List.setIfInBounds_toArray, List.set_cons_zero, List.set_cons_succ, q0d, q0e]
      rfl
     refine last_ (i := 10) (N := some 37) #[true, true, true, true, true, true, true, true, true, true, true, false] rfl rfl (by kernel_rfl) (by decide) (fun K hK => ?_)
     refine goes_ Tryd.func103 (by kernel_rfl) rfl #[.agg #[.int .i64 (q00 la i).f0, .string (q00 la i).f1, .slice P2 (q00 la i).f2.length P2c, .string (q00 la i).f3, .int .i64 (q00 la i).f4, .slice P5 (q00 la i).f5.length P5c], .agg #[.int .i64 (q00 lb i).f0, .string (q00 lb i).f1, .slice Q2 (q00 lb i).f2.length Q2c, .string (q00 lb i).f3, .int .i64 (q00 lb i).f4, .slice Q5 (q00 lb i).f5.length Q5c]] (by rfl) rfl rfl (by simp only [List.map_toArray, List.map_cons, List.map_nil]; rfl) ?_
     with_reducible refine (clerestoryref1_SameNode.calls k (q00 la i).f0 (q00 la i).f1 P2 P2c (q00 la i).f2 (q00 la i).f3 (q00 la i).f4 P5 P5c (q00 la i).f5 (q00 lb i).f0 (q00 lb i).f1 Q2 Q2c (q00 lb i).f2 (q00 lb i).f3 (q00 lb i).f4 Q5 Q5c (q00 lb i).f5 true _ (Kd.C_below HP2.out (q0g HB.out)) LP2.out (Kd.C_below HP5.out (q0g HB.out)) LP5.out (Kd.C_below HQ2.out (q0g HB.out)) LQ2.out (Kd.C_below HQ5.out (q0g HB.out)) LQ5.out HN.out).mono ?_
     rintro e w9 ⟨rfl, hbl0⟩
     refine ⟨_, rfl, ?_⟩
     have hbl := q01 (q0g (Below.refl wr.heap.size wr)) hbl0
     refine hK.out _ _ ?_
     clear hK K
     refine q1n (a' := ?_) ?_ ?_
     rotate_left
     ·show Act.put _ (some 37) _ = _
      simp only [Act.put, List.setIfInBounds_toArray, List.set_cons_zero, List.set_cons_succ, q0d, q0e]
      rfl
     refine q0n (i := 11) (N := some 38) (v := ?_) (a' := ?_) #[true, true, true, true, true, true, true, true, true, true, true, true] rfl rfl (by kernel_rfl) (fun _ _ _ h => h) (Or.inl ⟨by rfl, ?_⟩) ?_ ?_
     rotate_left
     ·intro w'
      go_simp
      with_reducible rfl
     rotate_left
     ·simp only [Act.put, List.setIfInBounds_toArray, List.set_cons_zero, List.set_cons_succ, q0d, q0e]
      rfl
     refine done_ (by kernel_rfl) ?_
     have n_DK := Aside0.mk (q02 DK.out hbl)
     have n_EK := Aside0.mk (q02 EK.out hbl)
     have n_HB := Aside0.mk (q01 HB.out hbl)
     go_wp2
     go_roundg k1
     case rel => exact ⟨wrap64 (i + 1), rfl, H3, n_DK, n_EK, n_HB⟩
     all_goals (first | omega | trivial)
    case n10 =>
     have c10b : decide (i < (la.length : Int)) = false := decide_eq_false c10
     obtain rfl := Option.some.inj H
     clear c10 H
     go_wp2
     go_ret
     exact ⟨rfl, HB.out⟩
def clerestoryref1_Under.l0 : Nat → Int → Int → List (S43) → Bool → Option (Bool)
 | 0, _, _, _, _ => none
 | k + 1, x1, x2, x248000, x248001 => if x1 = x2 then (some (x1 == x2)) else (if x1 ≥ 0 then (if 0 ≤ x1 then (if x1 < (x248000.length : Int) then (clerestoryref1_Under.l0 k ((q00 x248000 x1).f4) x2 x248000 x248001) else (none)) else (none)) else (some (x1 == x2)))
def clerestoryref1_Under.f (k : Nat) (l0_0 : List (S43)) (a0_1 : Bool) (a1 : Int) (a2 : Int) : Option (Bool) := clerestoryref1_Under.l0 k a1 a2 l0_0 a0_1
theorem clerestoryref1_Under.mono_l : ∀ k, (∀ y0 y1 y2 y3, LeO (clerestoryref1_Under.l0 k y0 y1 y2 y3) (clerestoryref1_Under.l0 (k + 1) y0 y1 y2 y3))
 | 0 => fun _ _ _ _ r h => by simp [clerestoryref1_Under.l0] at h
 | k + 1 => by
  have ih0 := clerestoryref1_Under.mono_l k
  ·intro y0 y1 y2 y3
   unfold clerestoryref1_Under.l0
   repeat' first | with_reducible first | apply ih0 | exact LeO.refl _ | exact LeO.none _ | refine LeO.ite ?_ ?_ | refine LeO.bind ?_ (fun _ => ?_) | (first | apply ih0 | exact LeO.none _ | refine LeO.ite ?_ ?_ | refine LeO.bind ?_ (fun _ => ?_))
theorem clerestoryref1_Under.mono : ∀ a0 a1 a2 a3 k, LeO (clerestoryref1_Under.f k a0 a1 a2 a3) (clerestoryref1_Under.f (k + 1) a0 a1 a2 a3) := by
 intro a0 a1 a2 a3 k
 have ih0 := clerestoryref1_Under.mono_l k
 unfold clerestoryref1_Under.f
 repeat' first | with_reducible first | apply ih0 | exact LeO.refl _ | exact LeO.none _ | refine LeO.ite ?_ ?_ | refine LeO.bind ?_ (fun _ => ?_) | (first | apply ih0 | exact LeO.none _ | refine LeO.ite ?_ ?_ | refine LeO.bind ?_ (fun _ => ?_))
set_option maxHeartbeats 8000000 in
set_option maxRecDepth 100000 in
theorem clerestoryref1_Under.calls (k : Nat) (A0_0 : Option Addr) (c0_0 : Nat) (l0_0 : List (S43)) (a0_1 : Bool) (a1 : Int) (a2 : Int) (r : Bool) (w : World) (hr0_0 : Kd.C k43 w A0_0 l0_0.length l0_0) (hc0_0 : l0_0.length ≤ c0_0) (h : clerestoryref1_Under.f k l0_0 a0_1 a1 a2 = some r) :
 Calls Tryd.prog 26 #[.agg #[.slice A0_0 l0_0.length c0_0, .bool a0_1], .int .i64 a1, .int .i64 a2] w fun e w' => e = .returned (.bool r) ∧ Below w.heap.size w w' := by
 have hu24 := Tryd.underlying24
 have HR0_0 := aS hr0_0
 have HC0_0 := aS hc0_0
 clear hr0_0 hc0_0
 have HB := aS (Below.refl w.heap.size w)
 have H := h; clear h; unfold clerestoryref1_Under.f at H
 have H' := aS H
 clear H
 go_enter Tryd.func26, Tryd.ntmps26
 go_wp2_with (first | ((with_reducible refine q07 (N := 3) rfl ?_); refine box0 rfl (N := 3) rfl (cs := #[.slice A0_0 l0_0.length c0_0, .bool a0_1]) (t := 24) zh (z7 HB.out) ?_; clear HB; intro gb247 w4 BK247 GW247 HB; have GE247 := GW247))
 go_loopg [1] k (fun kq v1 w' => ∃ (x1_1 : Int), v1 = .int .i64 x1_1 ∧ Aside0 (clerestoryref1_Under.l0 kq x1_1 a2 l0_0 a0_1 = some r) ∧ Aside0 (kq ≤ k) ∧ Aside0 (w'.heap[gb247]? = some (.cells #[(.slice A0_0 l0_0.length c0_0), .bool a0_1] 24 (0, 0))) ∧ Aside0 (Below w.heap.size w w'))
 case atStart => exact ⟨(a1), zi, H', ⟨Nat.le_refl _⟩, ⟨by (with_reducible repeat (first | refine kN ?_ _ | refine kD ?_ | refine kA ?_ _)); exact BK247.out⟩, ⟨by repeat (first | (with_reducible first | exact HB.out | apply bA | apply bN | apply bD | refine bS ?_ GE247.out) | exact HB.out)⟩⟩
 case round =>
  clear H'
  obtain ⟨x1_1, rfl, HA, HK1, BK247, HB⟩ := hrel
  cases gk with
  | zero => exact absurd HA.out (by simp [clerestoryref1_Under.l0])
  | succ k1 =>
   have H := HA.out
   clear HA
   simp only [clerestoryref1_Under.l0] at H
   refine iE H ?p5 ?n5 <;> clear H
   case' p5 => intro c5b0 c5b1 H
   case' n5 => intro c5 c5b0 c5b1 H; refine iL H ?p6 ?n6 <;> clear H
   case' p6 => intro c6b0 H; obtain ⟨hczL_0, hczL_1, hfzL_0, hfzL_1⟩ := bk2 BK247.out; refine iLp H ?_; clear H; intro c7b0 H; refine iTp H ?_; clear H; intro c8b0 H
   case' n6 => intro c6b0 H
   case p5|n6 =>
    obtain rfl := Option.some.inj H
    go_wp2
    go_ret
    exact ⟨by first | rfl | (simp [q05, q04] <;> rfl) | (simp [*, q05, q04] <;> rfl), by repeat (first | (with_reducible first | exact HB.out | apply bA | apply bN | apply bD | refine bS ?_ GE247.out) | exact HB.out)⟩
   case p6 =>
    have H' := aS H
    clear H
    obtain ⟨ad248, A248_2, c248_2, A248_5, c248_5, e248, hx248_0, hx248_1, hx248_2, hx248_3, hx248_4, hx248_5, HC248_2, HR248_2, HC248_5, HR248_5, p248, q248⟩ := q0w HB.out HR0_0.out x1_1 zb zb
    cases e248
    go_wp2
    go_roundg k1
    case measure => have := HK1.out; omega
    case rel => exact ⟨((q00 l0_0 x1_1).f4), zi, H', ⟨by have := HK1.out; omega⟩, ⟨by (with_reducible repeat (first | refine kN ?_ _ | refine kD ?_ | refine kA ?_ _)); exact BK247.out⟩, ⟨by repeat (first | (with_reducible first | exact HB.out | apply bA | apply bN | apply bD | refine bS ?_ GE247.out) | exact HB.out)⟩⟩
end Go.Proofs.YthjnallbbhnndaaDoor.XDe
namespace Go.Proofs.YthjnallbbhnndaaDoor.XDe
open Go.Proofs.YthjnallbbhnndaaDoor.Short Go.RowKit Go.Proofs.YthjnallbbhnndaaDoorW.PrintWords Go.Proofs.YthjnallbbhnndaaDoorW.PrintLast Go.Proofs.YthjnallbbhnndaaDoorW.PrintMore
attribute [local go_sem] q16 q14 q1g q1f q0s q0r q15 q13   -- for this text's walks alone
set_option linter.unusedVariables false
set_option linter.unusedSimpArgs false
theorem between_true {a lo hi : Int} (h : clerestoryref1_between.f a lo hi = some true) : lo ≤ a ∧ a ≤ hi := by
 unfold clerestoryref1_between.f at h
 by_cases c : a ≥ lo
 ·rw [if_pos c] at h
  exact ⟨c, of_decide_eq_true (Option.some.inj h)⟩
 ·rw [if_neg c] at h
  exact absurd (Option.some.inj h) (by decide)
theorem q0p {w w' : World} (h : Drawn0 w w') : Below w.heap.size w w' := by
 obtain ⟨n, rfl⟩ := h
 exact q1e (Below.refl _ _) n
theorem ed_sixo {w wx : World} {g t : Nat} {v0 v1 v2 v3 v4 v5 : Value} (u0 u1 u2 u3 u4 u5 : Value) (hb : Below w.heap.size w wx) (hg : w.heap.size ≤ g) (h : wx.heap[g]? = some (.cells #[v0, v1, v2, v3, v4, v5] t (0, 0))) :
 Below w.heap.size w ((((((wx.setCell ⟨g, 0, none⟩ u0).setCell ⟨g, 1, none⟩ u1).setCell ⟨g, 2, none⟩ u2).setCell ⟨g, 3, none⟩ u3).setCell ⟨g, 4, none⟩ u4).setCell ⟨g, 5, none⟩ u5) ∧
 ((((((wx.setCell ⟨g, 0, none⟩ u0).setCell ⟨g, 1, none⟩ u1).setCell ⟨g, 2, none⟩ u2).setCell ⟨g, 3, none⟩ u3).setCell ⟨g, 4, none⟩ u4).setCell ⟨g, 5, none⟩ u5).heap[g]? = some (.cells #[u0, u1, u2, u3, u4, u5] t (0, 0)) :=
 ⟨q08 (q08 (q08 (q08 (q08 (q08 hb hg) hg) hg) hg) hg) hg, q0h (q0h (q0h (q0h (q0h (q0h h 0 u0) 1 u1) 2 u2) 3 u3) 4 u4) 5 u5⟩
def edSw (k : Nat) (l0 : List S43) (q : Bool) (e0 e1 e2 e3 : Int) (e4 : ByteArray) (has : Bool) : Option Int :=
 if e0 = 1 then (if (q00 l0 e1).f0 = 2 then (clerestoryref1_domName.f k e4 false).bind fun b => some (if b = true then 0 else 3) else some 7)
 else if e0 = 2 then (if (q00 l0 e1).f0 = 2 then some (if has = true then 0 else 5) else some 7)
 else if e0 = 3 then (if (q00 l0 e1).f0 = 3 then some 0 else if (q00 l0 e1).f0 = 4 then some 0 else some 7)
 else if e0 = 6 then (if e1 = 0 then some 7 else if (q00 l0 e1).f4 < 0 then some 5 else some 0)
 else if 0 ≤ e2 ∧ e2 < (l0.length : Int) then
  (if (q00 l0 e1).f0 > 2 then some 7 else if e2 = 0 then some 7 else if e1 = 0 ∧ (q00 l0 e2).f0 = 3 then some 7 else if (q00 l0 e2).f4 ≥ 0 then some 9 else
   (if e3 = -1 then some 0 else clerestoryref1_placeIn.f k (q00 l0 e1).f5 e3).bind fun i => if i < 0 then some 5 else (clerestoryref1_Under.f k l0 q e1 e2).bind fun u => some (if u = true then 8 else 0)) else none
def clerestoryref1_EditErr.f (k : Nat) (l0 : List S43) (q : Bool) (e0 e1 e2 e3 : Int) (e4 e5 : ByteArray) (e6 : Int) (e7 : ByteArray) (l8 : List S122) (e9 : ByteArray) (e10 : Int) (l11 : List Int) : Option Int :=
 (clerestoryref1_between.f e0 1 6).bind fun t => if t = true then
  (if e0 = 4 then (if 0 < l11.length then some 3 else if e6 = 1 then some 7 else clerestoryref1_NodeErr.f k e6 e7 l8 e9 e10 l11) else
   (clerestoryref1_between.f e1 0 (wrap64 ((l0.length : Int) - 1))).bind fun b1 => if b1 = true then
    ((if e0 = 5 then clerestoryref1_between.f e2 0 (wrap64 ((l0.length : Int) - 1)) else some true).bind fun b2 => if b2 = true then
     (if 0 ≤ e1 ∧ e1 < (l0.length : Int) then (clerestoryref1_AttrOf.f k (q00 l0 e1).f2 e4).bind fun p => edSw k l0 q e0 e1 e2 e3 e4 p.2 else none) else some 5) else some 5) else some 1
theorem edSw_mono (l0 : List S43) (q : Bool) (e0 e1 e2 e3 : Int) (e4 : ByteArray) (has : Bool) (k : Nat) : LeO (edSw k l0 q e0 e1 e2 e3 e4 has) (edSw (k + 1) l0 q e0 e1 e2 e3 e4 has) := by
 unfold edSw
 repeat' first | with_reducible first | apply clerestoryref1_domName.mono | apply clerestoryref1_placeIn.mono | apply clerestoryref1_Under.mono | exact LeO.refl _ | refine LeO.ite ?_ ?_ | refine LeO.bind ?_ (fun _ => ?_)
theorem clerestoryref1_EditErr.mono (l0 : List S43) (q : Bool) (e0 e1 e2 e3 : Int) (e4 e5 : ByteArray) (e6 : Int) (e7 : ByteArray) (l8 : List S122) (e9 : ByteArray) (e10 : Int) (l11 : List Int) (k : Nat) : LeO (clerestoryref1_EditErr.f k l0 q e0 e1 e2 e3 e4 e5 e6 e7 l8 e9 e10 l11) (clerestoryref1_EditErr.f (k + 1) l0 q e0 e1 e2 e3 e4 e5 e6 e7 l8 e9 e10 l11) := by
 unfold clerestoryref1_EditErr.f
 repeat' first | with_reducible first | apply clerestoryref1_NodeErr.mono | apply clerestoryref1_AttrOf.mono | apply edSw_mono | exact LeO.refl _ | refine LeO.ite ?_ ?_ | refine LeO.bind ?_ (fun _ => ?_)
set_option maxHeartbeats 16000000 in
set_option maxRecDepth 100000 in
theorem clerestoryref1_EditErr.calls (k : Nat) (A0 : Option Addr) (c0 : Nat) (l0 : List S43) (q : Bool) (e0 e1 e2 e3 : Int) (e4 e5 : ByteArray) (e6 : Int) (e7 : ByteArray) (A8 : Option Addr) (c8 : Nat) (l8 : List S122) (e9 : ByteArray) (e10 : Int) (A11 : Option Addr) (c11 : Nat) (l11 : List Int) (r : Int) (w : World) (hr0 : Kd.C k43 w A0 l0.length l0) (hc0 : l0.length ≤ c0) (hC8 : Kd.C k122 w A8 l8.length l8) (hL8 : l8.length ≤ c8) (hC11 : Kd.C (Kd.int .i64) w A11 l11.length l11) (hL11 : l11.length ≤ c11) (h : clerestoryref1_EditErr.f k l0 q e0 e1 e2 e3 e4 e5 e6 e7 l8 e9 e10 l11 = some r) :
 Calls Tryd.prog 106 #[.agg #[.slice A0 l0.length c0, .bool q], .agg #[.int .i64 e0, .int .i64 e1, .int .i64 e2, .int .i64 e3, .string e4, .string e5, .int .i64 e6, .string e7, .slice A8 l8.length c8, .string e9, .int .i64 e10, .slice A11 l11.length c11]] w fun e w' => e = .returned (.int .i64 r) ∧ Below w.heap.size w w' := by
 have hu24 := Tryd.underlying24
 have hu43 := Tryd.underlying43
 have hu87 := Tryd.underlying87
 have HC := aS hr0
 have HL := aS hc0
 have HC8 := aS hC8
 have HL8 := aS hL8
 have HC11 := aS hC11
 have HL11 := aS hL11
 clear hr0 hc0 hC8 hL8 hC11 hL11
 unfold clerestoryref1_EditErr.f at h
 obtain ⟨t, ht, h⟩ := Option.bind_eq_some_iff.1 h
 have HT := aS ht
 clear ht
 go_enter Tryd.func106, Tryd.ntmps106
 go_upto_region 1 with (first | ((with_reducible refine q07 (N := 2) rfl ?_); refine box1 rfl (N := 2) rfl (cs := #[.slice A0 l0.length c0, .bool q]) (t := 24) zh ?_; intro gd wd DK GD DS) | ((with_reducible refine q07 (N := 3) rfl ?_); refine box1 rfl (N := 3) rfl (cs := #[.int .i64 e0, .int .i64 e1, .int .i64 e2, .int .i64 e3, .string e4, .string e5, .int .i64 e6, .string e7, .slice A8 l8.length c8, .string e9, .int .i64 e10, .slice A11 l11.length c11]) (t := 87) zh ?_; intro ge we EK GE ES))
 have HB := aS (q01 DS.out ES.out)
 have n_DK := aS (q02 DK.out ES.out)
 clear DK DS ES GD GE
 have DK := n_DK
 clear n_DK
 obtain ⟨hd0, hd1, -, -⟩ := bk2 DK.out
 obtain ⟨ha0, ha1, ha2, ha3, ha4, ha5, ha6, ha7, ha8, ha9, ha10, ha11⟩ := bk12 EK.out
 cases t with
 | false =>
  rw [if_neg Bool.false_ne_true] at h
  obtain rfl := Option.some.inj h
  go_wp2_with (go_at_call 73; (with_reducible refine (clerestoryref1_between.calls e0 1 6 false _ HT.out).mono ?_); rintro e w7 ⟨rfl, hdr⟩; have hbl := q0p hdr; clear hdr; have n_HB := aS (q01 HB.out hbl); have n_DK := aS (q02 DK.out hbl); have n_EK := aS (q02 EK.out hbl); clear hbl HB DK EK hd0 hd1 ha0 ha1 ha2 ha3 ha4 ha5 ha6 ha7 ha8 ha9 ha10 ha11; have HB := n_HB; have DK := n_DK; have EK := n_EK; clear n_HB n_DK n_EK; obtain ⟨hd0, hd1, -, -⟩ := bk2 DK.out; obtain ⟨ha0, ha1, ha2, ha3, ha4, ha5, ha6, ha7, ha8, ha9, ha10, ha11⟩ := bk12 EK.out)
  go_ret
  exact ⟨rfl, (z8 HB.out)⟩
 | true =>
  rw [if_pos rfl] at h
  have HT6 := aS (between_true HT.out)
  go_upto_region 4 with (go_at_call 73; (with_reducible refine (clerestoryref1_between.calls e0 1 6 true _ HT.out).mono ?_); rintro e w7 ⟨rfl, hdr⟩; have hbl := q0p hdr; clear hdr; have n_HB := aS (q01 HB.out hbl); have n_DK := aS (q02 DK.out hbl); have n_EK := aS (q02 EK.out hbl); clear hbl HB DK EK hd0 hd1 ha0 ha1 ha2 ha3 ha4 ha5 ha6 ha7 ha8 ha9 ha10 ha11; have HB := n_HB; have DK := n_DK; have EK := n_EK; clear n_HB n_DK n_EK; obtain ⟨hd0, hd1, -, -⟩ := bk2 DK.out; obtain ⟨ha0, ha1, ha2, ha3, ha4, ha5, ha6, ha7, ha8, ha9, ha10, ha11⟩ := bk12 EK.out)
  by_cases s4 : e0 = 4
  ·rw [if_pos s4] at h
   have s4b : (e0 == 4) = true := beq_iff_eq.mpr s4
   have s4n : (e0 != 4) = false := bne_eq_false_iff_eq.mpr s4
   skip
   clear s4
   by_cases g1 : 0 < l11.length
   ·rw [if_pos g1] at h
    have g1b : decide (0 < l11.length) = true := decide_eq_true g1
    obtain rfl := Option.some.inj h
    have g1c : decide ((l11.length : Int) > 0) = true := decide_eq_true (by omega)
    go_wp2
    go_ret
    exact ⟨rfl, (z8 HB.out)⟩
   ·rw [if_neg g1] at h
    have g1b : decide (0 < l11.length) = false := decide_eq_false g1
    have g1c : decide ((l11.length : Int) > 0) = false := decide_eq_false (by omega)
    by_cases g2 : e6 = 1
    ·rw [if_pos g2] at h
     have g2b : (e6 == 1) = true := beq_iff_eq.mpr g2
     have g2n : (e6 != 1) = false := bne_eq_false_iff_eq.mpr g2
     skip
     clear g2
     obtain rfl := Option.some.inj h
     go_wp2
     go_ret
     exact ⟨rfl, (z8 HB.out)⟩
    ·rw [if_neg g2] at h
     have g2b : (e6 == 1) = false := beq_eq_false_iff_ne.mpr g2
     have g2n : (e6 != 1) = true := bne_iff_ne.mpr g2
     have HN := aS h
     clear h
     go_wp2_with (go_at_call 72; (with_reducible refine (clerestoryref1_NodeErr.calls k e6 e7 A8 c8 l8 e9 e10 A11 c11 l11 r _ (Kd.C_below HC8.out HB.out) HL8.out (Kd.C_below HC11.out HB.out) HL11.out HN.out).mono ?_); rintro e w7 ⟨rfl, hbl⟩; have n_HB := aS (q01 HB.out hbl); clear hbl HB ; have HB := n_HB; clear n_HB)
     go_ret
     exact ⟨rfl, (z8 HB.out)⟩
  ·rw [if_neg s4] at h
   have s4b : (e0 == 4) = false := beq_eq_false_iff_ne.mpr s4
   have s4n : (e0 != 4) = true := bne_iff_ne.mpr s4
   obtain ⟨b1, h1, h⟩ := Option.bind_eq_some_iff.1 h
   have H1 := aS h1
   clear h1
   cases b1 with
   | false =>
    rw [if_neg Bool.false_ne_true] at h
    obtain rfl := Option.some.inj h
    go_wp2_with (go_at_call 73; (with_reducible refine (clerestoryref1_between.calls e1 0 (wrap64 ((l0.length : Int) - 1)) false _ H1.out).mono ?_); rintro e w7 ⟨rfl, hdr⟩; have hbl := q0p hdr; clear hdr; have n_HB := aS (q01 HB.out hbl); have n_DK := aS (q02 DK.out hbl); have n_EK := aS (q02 EK.out hbl); clear hbl HB DK EK hd0 hd1 ha0 ha1 ha2 ha3 ha4 ha5 ha6 ha7 ha8 ha9 ha10 ha11; have HB := n_HB; have DK := n_DK; have EK := n_EK; clear n_HB n_DK n_EK; obtain ⟨hd0, hd1, -, -⟩ := bk2 DK.out; obtain ⟨ha0, ha1, ha2, ha3, ha4, ha5, ha6, ha7, ha8, ha9, ha10, ha11⟩ := bk12 EK.out)
    go_ret
    exact ⟨rfl, (z8 HB.out)⟩
   | true =>
    rw [if_pos rfl] at h
    obtain ⟨b2, h2, h⟩ := Option.bind_eq_some_iff.1 h
    by_cases s5 : e0 = 5
    ·rw [if_pos s5] at h2
     have s5b : (e0 == 5) = true := beq_iff_eq.mpr s5
     have s5n : (e0 != 5) = false := bne_eq_false_iff_eq.mpr s5
     have f1 : ¬ e0 = 1 := by omega
     have f2 : ¬ e0 = 2 := by omega
     have f3 : ¬ e0 = 3 := by omega
     have f6 : ¬ e0 = 6 := by omega
     have F5 := aS (And.intro f1 (And.intro f2 (And.intro f3 f6)))
     have s1b : (e0 == 1) = false := beq_eq_false_iff_ne.mpr f1
     have s2b : (e0 == 2) = false := beq_eq_false_iff_ne.mpr f2
     have s3b : (e0 == 3) = false := beq_eq_false_iff_ne.mpr f3
     have s6b : (e0 == 6) = false := beq_eq_false_iff_ne.mpr f6
     clear f1 f2 f3 f6
     clear s5
     have H2 := aS h2
     clear h2
     cases b2 with
     | false =>
      rw [if_neg Bool.false_ne_true] at h
      obtain rfl := Option.some.inj h
      go_wp2_with (first | (go_at_call 73; (with_reducible refine (clerestoryref1_between.calls e1 0 (wrap64 ((l0.length : Int) - 1)) true _ H1.out).mono ?_); rintro e w7 ⟨rfl, hdr⟩; have hbl := q0p hdr; clear hdr; have n_HB := aS (q01 HB.out hbl); have n_DK := aS (q02 DK.out hbl); have n_EK := aS (q02 EK.out hbl); clear hbl HB DK EK hd0 hd1 ha0 ha1 ha2 ha3 ha4 ha5 ha6 ha7 ha8 ha9 ha10 ha11; have HB := n_HB; have DK := n_DK; have EK := n_EK; clear n_HB n_DK n_EK; obtain ⟨hd0, hd1, -, -⟩ := bk2 DK.out; obtain ⟨ha0, ha1, ha2, ha3, ha4, ha5, ha6, ha7, ha8, ha9, ha10, ha11⟩ := bk12 EK.out) | (go_at_call 73; (with_reducible refine (clerestoryref1_between.calls e2 0 (wrap64 ((l0.length : Int) - 1)) false _ H2.out).mono ?_); rintro e w7 ⟨rfl, hdr⟩; have hbl := q0p hdr; clear hdr; have n_HB := aS (q01 HB.out hbl); have n_DK := aS (q02 DK.out hbl); have n_EK := aS (q02 EK.out hbl); clear hbl HB DK EK hd0 hd1 ha0 ha1 ha2 ha3 ha4 ha5 ha6 ha7 ha8 ha9 ha10 ha11; have HB := n_HB; have DK := n_DK; have EK := n_EK; clear n_HB n_DK n_EK; obtain ⟨hd0, hd1, -, -⟩ := bk2 DK.out; obtain ⟨ha0, ha1, ha2, ha3, ha4, ha5, ha6, ha7, ha8, ha9, ha10, ha11⟩ := bk12 EK.out))
      go_ret
      exact ⟨rfl, (z8 HB.out)⟩
     | true =>
      rw [if_pos rfl] at h
      by_cases x01 : 0 ≤ e1 ∧ e1 < (l0.length : Int)
      ·rw [if_pos x01] at h
       obtain ⟨⟨v, has⟩, hv, h⟩ := Option.bind_eq_some_iff.1 h
       have HV := aS hv
       clear hv
       unfold edSw at h
       go_upto_region 12 with (first | (go_at_call 73; (with_reducible refine (clerestoryref1_between.calls e1 0 (wrap64 ((l0.length : Int) - 1)) true _ H1.out).mono ?_); rintro e w7 ⟨rfl, hdr⟩; have hbl := q0p hdr; clear hdr; have n_HB := aS (q01 HB.out hbl); have n_DK := aS (q02 DK.out hbl); have n_EK := aS (q02 EK.out hbl); clear hbl HB DK EK hd0 hd1 ha0 ha1 ha2 ha3 ha4 ha5 ha6 ha7 ha8 ha9 ha10 ha11; have HB := n_HB; have DK := n_DK; have EK := n_EK; clear n_HB n_DK n_EK; obtain ⟨hd0, hd1, -, -⟩ := bk2 DK.out; obtain ⟨ha0, ha1, ha2, ha3, ha4, ha5, ha6, ha7, ha8, ha9, ha10, ha11⟩ := bk12 EK.out) | (go_at_call 73; (with_reducible refine (clerestoryref1_between.calls e2 0 (wrap64 ((l0.length : Int) - 1)) true _ H2.out).mono ?_); rintro e w7 ⟨rfl, hdr⟩; have hbl := q0p hdr; clear hdr; have n_HB := aS (q01 HB.out hbl); have n_DK := aS (q02 DK.out hbl); have n_EK := aS (q02 EK.out hbl); clear hbl HB DK EK hd0 hd1 ha0 ha1 ha2 ha3 ha4 ha5 ha6 ha7 ha8 ha9 ha10 ha11; have HB := n_HB; have DK := n_DK; have EK := n_EK; clear n_HB n_DK n_EK; obtain ⟨hd0, hd1, -, -⟩ := bk2 DK.out; obtain ⟨ha0, ha1, ha2, ha3, ha4, ha5, ha6, ha7, ha8, ha9, ha10, ha11⟩ := bk12 EK.out))
       obtain ⟨ad, A2, c2, A5, c5, x_, x0, x1, x2, x3, x4, x5, l2, C2, l5, C5⟩ := at_T43 HC.out e1 x01.1 x01.2
       have HC2 := aS C2
       have HL2 := aS l2
       have HC5 := aS C5
       have HL5 := aS l5
       clear C2 C5 l2 l5
       subst x_
       replace x0 := (HB.out.cell (World.block_lt_of_cell? _ _ x0)).trans x0
       replace x1 := (HB.out.cell (World.block_lt_of_cell? _ _ x1)).trans x1
       replace x2 := (HB.out.cell (World.block_lt_of_cell? _ _ x2)).trans x2
       replace x3 := (HB.out.cell (World.block_lt_of_cell? _ _ x3)).trans x3
       replace x4 := (HB.out.cell (World.block_lt_of_cell? _ _ x4)).trans x4
       replace x5 := (HB.out.cell (World.block_lt_of_cell? _ _ x5)).trans x5
       have p0 := eq_true x01.1
       have p1 := eq_true x01.2
       clear x01
       go_upto_region 13 with ((with_reducible refine q07 (N := 6) rfl ?_); refine box1 rfl (N := 6) rfl (cs := #[.int .i64 0, .string (⟨#[]⟩ : ByteArray), .slice none 0 0, .string (⟨#[]⟩ : ByteArray), .int .i64 0, .slice none 0 0]) (t := 43) zh ?_; intro gx wx XK GX XS; obtain ⟨hv0, hv1, hv2, hv3, hv4, hv5, hvf0, hvf1, hvf2, hvf3, hvf4, hvf5⟩ := bk6 XK.out)
       have n_B := aS (ed_sixo (.int .i64 (q00 l0 e1).f0) (.string (q00 l0 e1).f1) (.slice A2 (q00 l0 e1).f2.length c2) (.string (q00 l0 e1).f3) (.int .i64 (q00 l0 e1).f4) (.slice A5 (q00 l0 e1).f5.length c5) XS.out GX.out XK.out)
       have n_X := aS n_B.out.2
       have hbl := n_B.out.1
       clear XK XS GX n_B hv0 hv1 hv2 hv3 hv4 hv5 hvf0 hvf1 hvf2 hvf3 hvf4 hvf5 x0 x1 x2 x3 x4 x5 p0 p1
       generalize ((((((wx.setCell ⟨gx, 0, none⟩ (.int .i64 (q00 l0 e1).f0)).setCell ⟨gx, 1, none⟩ (.string (q00 l0 e1).f1)).setCell ⟨gx, 2, none⟩ (.slice A2 (q00 l0 e1).f2.length c2)).setCell ⟨gx, 3, none⟩ (.string (q00 l0 e1).f3)).setCell ⟨gx, 4, none⟩ (.int .i64 (q00 l0 e1).f4)).setCell ⟨gx, 5, none⟩ (.slice A5 (q00 l0 e1).f5.length c5)) = wX at hbl n_X ⊢
       have n_HB := aS (q01 HB.out hbl)
       have n_DK := aS (q02 DK.out hbl)
       have n_EK := aS (q02 EK.out hbl)
       clear hbl HB DK EK hd0 hd1 ha0 ha1 ha2 ha3 ha4 ha5 ha6 ha7 ha8 ha9 ha10 ha11
       have HB := n_HB
       have DK := n_DK
       have EK := n_EK
       clear n_HB n_DK n_EK
       obtain ⟨hd0, hd1, -, -⟩ := bk2 DK.out
       obtain ⟨ha0, ha1, ha2, ha3, ha4, ha5, ha6, ha7, ha8, ha9, ha10, ha11⟩ := bk12 EK.out
       have XK := n_X
       clear n_X
       obtain ⟨hx0, hx1, hx2, hx3, hx4, hx5, -, -, -, -, -, -⟩ := bk6 XK.out
       go_upto_region 24 with (go_at_call 64; (with_reducible refine (clerestoryref1_AttrOf.calls k A2 c2 (q00 l0 e1).f2 e4 v has _ (Kd.C_below HC2.out HB.out) HL2.out HV.out).mono ?_); rintro e w7 ⟨rfl, hdr⟩; have hbl := q0p hdr; clear hdr; have n_HB := aS (q01 HB.out hbl); have n_DK := aS (q02 DK.out hbl); have n_EK := aS (q02 EK.out hbl); have n_XK := aS (q02 XK.out hbl); clear hbl HB DK EK XK hd0 hd1 ha0 ha1 ha2 ha3 ha4 ha5 ha6 ha7 ha8 ha9 ha10 ha11 hx0 hx1 hx2 hx3 hx4 hx5; have HB := n_HB; have DK := n_DK; have EK := n_EK; have XK := n_XK; clear n_HB n_DK n_EK n_XK; obtain ⟨hd0, hd1, -, -⟩ := bk2 DK.out; obtain ⟨ha0, ha1, ha2, ha3, ha4, ha5, ha6, ha7, ha8, ha9, ha10, ha11⟩ := bk12 EK.out; obtain ⟨hx0, hx1, hx2, hx3, hx4, hx5, -, -, -, -, -, -⟩ := bk6 XK.out)
       rw [if_neg F5.out.1, if_neg F5.out.2.1, if_neg F5.out.2.2.1, if_neg F5.out.2.2.2] at h
       by_cases y01 : 0 ≤ e2 ∧ e2 < (l0.length : Int)
       ·rw [if_pos y01] at h
        obtain ⟨ad2, B2, d2, B5, d5, z_, z0, z1, z2, z3, z4, z5, -, -, -, -⟩ := at_T43 HC.out e2 y01.1 y01.2
        obtain rfl : ad = ad2 := by injection z_
        clear z_
        replace z0 := (HB.out.cell (World.block_lt_of_cell? _ _ z0)).trans z0
        replace z1 := (HB.out.cell (World.block_lt_of_cell? _ _ z1)).trans z1
        replace z2 := (HB.out.cell (World.block_lt_of_cell? _ _ z2)).trans z2
        replace z3 := (HB.out.cell (World.block_lt_of_cell? _ _ z3)).trans z3
        replace z4 := (HB.out.cell (World.block_lt_of_cell? _ _ z4)).trans z4
        replace z5 := (HB.out.cell (World.block_lt_of_cell? _ _ z5)).trans z5
        have q0 := eq_true y01.1
        have q1 := eq_true y01.2
        clear y01
        go_upto_region 16 with ((with_reducible refine q07 (N := 9) rfl ?_); refine box1 rfl (N := 9) rfl (cs := #[.int .i64 0, .string (⟨#[]⟩ : ByteArray), .slice none 0 0, .string (⟨#[]⟩ : ByteArray), .int .i64 0, .slice none 0 0]) (t := 43) zh ?_; intro gy wy YK GY YS; obtain ⟨hv0, hv1, hv2, hv3, hv4, hv5, hvf0, hvf1, hvf2, hvf3, hvf4, hvf5⟩ := bk6 YK.out)
        have n_B := aS (ed_sixo (.int .i64 (q00 l0 e2).f0) (.string (q00 l0 e2).f1) (.slice B2 (q00 l0 e2).f2.length d2) (.string (q00 l0 e2).f3) (.int .i64 (q00 l0 e2).f4) (.slice B5 (q00 l0 e2).f5.length d5) YS.out GY.out YK.out)
        have n_Y := aS n_B.out.2
        have hbl := n_B.out.1
        clear YK YS GY n_B hv0 hv1 hv2 hv3 hv4 hv5 hvf0 hvf1 hvf2 hvf3 hvf4 hvf5 z0 z1 z2 z3 z4 z5 q0 q1
        generalize ((((((wy.setCell ⟨gy, 0, none⟩ (.int .i64 (q00 l0 e2).f0)).setCell ⟨gy, 1, none⟩ (.string (q00 l0 e2).f1)).setCell ⟨gy, 2, none⟩ (.slice B2 (q00 l0 e2).f2.length d2)).setCell ⟨gy, 3, none⟩ (.string (q00 l0 e2).f3)).setCell ⟨gy, 4, none⟩ (.int .i64 (q00 l0 e2).f4)).setCell ⟨gy, 5, none⟩ (.slice B5 (q00 l0 e2).f5.length d5)) = wY at hbl n_Y ⊢
        have n_HB := aS (q01 HB.out hbl)
        have n_DK := aS (q02 DK.out hbl)
        have n_EK := aS (q02 EK.out hbl)
        have n_XK := aS (q02 XK.out hbl)
        clear hbl HB DK EK XK hd0 hd1 ha0 ha1 ha2 ha3 ha4 ha5 ha6 ha7 ha8 ha9 ha10 ha11 hx0 hx1 hx2 hx3 hx4 hx5
        have HB := n_HB
        have DK := n_DK
        have EK := n_EK
        have XK := n_XK
        clear n_HB n_DK n_EK n_XK
        obtain ⟨hd0, hd1, -, -⟩ := bk2 DK.out
        obtain ⟨ha0, ha1, ha2, ha3, ha4, ha5, ha6, ha7, ha8, ha9, ha10, ha11⟩ := bk12 EK.out
        obtain ⟨hx0, hx1, hx2, hx3, hx4, hx5, -, -, -, -, -, -⟩ := bk6 XK.out
        have YK := n_Y
        clear n_Y
        obtain ⟨hy0, hy1, hy2, hy3, hy4, hy5, -, -, -, -, -, -⟩ := bk6 YK.out
        by_cases m1 : (q00 l0 e1).f0 > 2
        ·rw [if_pos m1] at h
         have m1b : decide ((q00 l0 e1).f0 > 2) = true := decide_eq_true m1
         obtain rfl := Option.some.inj h
         go_wp2
         go_ret
         exact ⟨rfl, (z8 HB.out)⟩
        ·rw [if_neg m1] at h
         have m1b : decide ((q00 l0 e1).f0 > 2) = false := decide_eq_false m1
         by_cases m2 : e2 = 0
         ·rw [if_pos m2] at h
          have m2b : (e2 == 0) = true := beq_iff_eq.mpr m2
          have m2n : (e2 != 0) = false := bne_eq_false_iff_eq.mpr m2
          skip
          clear m2
          obtain rfl := Option.some.inj h
          go_wp2
          go_ret
          exact ⟨rfl, (z8 HB.out)⟩
         ·rw [if_neg m2] at h
          have m2b : (e2 == 0) = false := beq_eq_false_iff_ne.mpr m2
          have m2n : (e2 != 0) = true := bne_iff_ne.mpr m2
          by_cases m3 : e1 = 0 ∧ (q00 l0 e2).f0 = 3
          ·rw [if_pos m3] at h
           have m3b : (e1 == 0) = true := beq_iff_eq.mpr m3.1
           have m4b : ((q00 l0 e2).f0 == 3) = true := beq_iff_eq.mpr m3.2
           clear m3
           obtain rfl := Option.some.inj h
           go_wp2
           go_ret
           exact ⟨rfl, (z8 HB.out)⟩
          ·rw [if_neg m3] at h
           have hm : ((e1 == 0) = true ∧ ((q00 l0 e2).f0 == 3) = false) ∨ (e1 == 0) = false := by
            by_cases m4 : e1 = 0
            ·exact .inl ⟨beq_iff_eq.mpr m4, beq_eq_false_iff_ne.mpr (fun e => m3 ⟨m4, e⟩)⟩
            ·exact .inr (beq_eq_false_iff_ne.mpr m4)
           clear m3
           rcases hm with ⟨m3b, m4b⟩ | m3b
           all_goals
            by_cases m5 : (q00 l0 e2).f4 ≥ 0
            ·rw [if_pos m5] at h
             have m5b : decide ((q00 l0 e2).f4 ≥ 0) = true := decide_eq_true m5
             obtain rfl := Option.some.inj h
             go_wp2
             go_ret
             exact ⟨rfl, (z8 HB.out)⟩
            ·rw [if_neg m5] at h
             have m5b : decide ((q00 l0 e2).f4 ≥ 0) = false := decide_eq_false m5
             obtain ⟨i, hi, h⟩ := Option.bind_eq_some_iff.1 h
             by_cases k1 : e3 = -1
             ·rw [if_pos k1] at hi
              have k1b : (e3 == -1) = true := beq_iff_eq.mpr k1
              have k1n : (e3 != -1) = false := bne_eq_false_iff_eq.mpr k1
              skip
              clear k1
              obtain rfl := Option.some.inj hi
              clear hi
              rw [if_neg (by decide)] at h
              obtain ⟨u, hu, h⟩ := Option.bind_eq_some_iff.1 h
              have HU := aS hu
              clear hu
              obtain rfl := Option.some.inj h
              cases u
              all_goals
               go_wp2_with (first | (go_at_call 74; (with_reducible refine (clerestoryref1_placeIn.calls k A5 c5 (q00 l0 e1).f5 e3 i _ (Kd.C_below HC5.out HB.out) HL5.out trivial).mono ?_); rintro e w7 ⟨rfl, hdr⟩; have hbl := q0p hdr; clear hdr; have n_HB := aS (q01 HB.out hbl); have n_DK := aS (q02 DK.out hbl); have n_EK := aS (q02 EK.out hbl); have n_XK := aS (q02 XK.out hbl); have n_YK := aS (q02 YK.out hbl); clear hbl HB DK EK XK YK hd0 hd1 ha0 ha1 ha2 ha3 ha4 ha5 ha6 ha7 ha8 ha9 ha10 ha11 hx0 hx1 hx2 hx3 hx4 hx5 hy0 hy1 hy2 hy3 hy4 hy5; have HB := n_HB; have DK := n_DK; have EK := n_EK; have XK := n_XK; have YK := n_YK; clear n_HB n_DK n_EK n_XK n_YK; obtain ⟨hd0, hd1, -, -⟩ := bk2 DK.out; obtain ⟨ha0, ha1, ha2, ha3, ha4, ha5, ha6, ha7, ha8, ha9, ha10, ha11⟩ := bk12 EK.out; obtain ⟨hx0, hx1, hx2, hx3, hx4, hx5, -, -, -, -, -, -⟩ := bk6 XK.out; obtain ⟨hy0, hy1, hy2, hy3, hy4, hy5, -, -, -, -, -, -⟩ := bk6 YK.out) | (go_at_call 26; (with_reducible refine (clerestoryref1_Under.calls k (some ad) c0 l0 q e1 e2 _ _ (Kd.C_below HC.out HB.out) HL.out HU.out).mono ?_); rintro e w7 ⟨rfl, hbl⟩; have n_HB := aS (q01 HB.out hbl); clear hbl HB ; have HB := n_HB; clear n_HB))
               go_ret
               exact ⟨rfl, (z8 HB.out)⟩
             ·rw [if_neg k1] at hi
              have k1b : (e3 == -1) = false := beq_eq_false_iff_ne.mpr k1
              have k1n : (e3 != -1) = true := bne_iff_ne.mpr k1
              have HI := aS hi
              clear hi
              by_cases ki : i < 0
              ·rw [if_pos ki] at h
               have kib : decide (i < 0) = true := decide_eq_true ki
               obtain rfl := Option.some.inj h
               go_wp2_with (go_at_call 74; (with_reducible refine (clerestoryref1_placeIn.calls k A5 c5 (q00 l0 e1).f5 e3 i _ (Kd.C_below HC5.out HB.out) HL5.out HI.out).mono ?_); rintro e w7 ⟨rfl, hdr⟩; have hbl := q0p hdr; clear hdr; have n_HB := aS (q01 HB.out hbl); clear hbl HB ; have HB := n_HB; clear n_HB)
               go_ret
               exact ⟨rfl, (z8 HB.out)⟩
              ·rw [if_neg ki] at h
               have kib : decide (i < 0) = false := decide_eq_false ki
               obtain ⟨u, hu, h⟩ := Option.bind_eq_some_iff.1 h
               have HU := aS hu
               clear hu
               obtain rfl := Option.some.inj h
               cases u
               all_goals
                go_wp2_with (first | (go_at_call 74; (with_reducible refine (clerestoryref1_placeIn.calls k A5 c5 (q00 l0 e1).f5 e3 i _ (Kd.C_below HC5.out HB.out) HL5.out HI.out).mono ?_); rintro e w7 ⟨rfl, hdr⟩; have hbl := q0p hdr; clear hdr; have n_HB := aS (q01 HB.out hbl); have n_DK := aS (q02 DK.out hbl); have n_EK := aS (q02 EK.out hbl); have n_XK := aS (q02 XK.out hbl); have n_YK := aS (q02 YK.out hbl); clear hbl HB DK EK XK YK hd0 hd1 ha0 ha1 ha2 ha3 ha4 ha5 ha6 ha7 ha8 ha9 ha10 ha11 hx0 hx1 hx2 hx3 hx4 hx5 hy0 hy1 hy2 hy3 hy4 hy5; have HB := n_HB; have DK := n_DK; have EK := n_EK; have XK := n_XK; have YK := n_YK; clear n_HB n_DK n_EK n_XK n_YK; obtain ⟨hd0, hd1, -, -⟩ := bk2 DK.out; obtain ⟨ha0, ha1, ha2, ha3, ha4, ha5, ha6, ha7, ha8, ha9, ha10, ha11⟩ := bk12 EK.out; obtain ⟨hx0, hx1, hx2, hx3, hx4, hx5, -, -, -, -, -, -⟩ := bk6 XK.out; obtain ⟨hy0, hy1, hy2, hy3, hy4, hy5, -, -, -, -, -, -⟩ := bk6 YK.out) | (go_at_call 26; (with_reducible refine (clerestoryref1_Under.calls k (some ad) c0 l0 q e1 e2 _ _ (Kd.C_below HC.out HB.out) HL.out HU.out).mono ?_); rintro e w7 ⟨rfl, hbl⟩; have n_HB := aS (q01 HB.out hbl); clear hbl HB ; have HB := n_HB; clear n_HB))
                go_ret
                exact ⟨rfl, (z8 HB.out)⟩
       ·rw [if_neg y01] at h
        exact absurd h (by simp)
      ·rw [if_neg x01] at h
       exact absurd h (by simp)
    ·rw [if_neg s5] at h2
     have s5b : (e0 == 5) = false := beq_eq_false_iff_ne.mpr s5
     have s5n : (e0 != 5) = true := bne_iff_ne.mpr s5
     obtain rfl := Option.some.inj h2
     clear h2
     rw [if_pos rfl] at h
     by_cases x01 : 0 ≤ e1 ∧ e1 < (l0.length : Int)
     ·rw [if_pos x01] at h
      obtain ⟨⟨v, has⟩, hv, h⟩ := Option.bind_eq_some_iff.1 h
      have HV := aS hv
      clear hv
      unfold edSw at h
      go_upto_region 12 with (first | (go_at_call 73; (with_reducible refine (clerestoryref1_between.calls e1 0 (wrap64 ((l0.length : Int) - 1)) true _ H1.out).mono ?_); rintro e w7 ⟨rfl, hdr⟩; have hbl := q0p hdr; clear hdr; have n_HB := aS (q01 HB.out hbl); have n_DK := aS (q02 DK.out hbl); have n_EK := aS (q02 EK.out hbl); clear hbl HB DK EK hd0 hd1 ha0 ha1 ha2 ha3 ha4 ha5 ha6 ha7 ha8 ha9 ha10 ha11; have HB := n_HB; have DK := n_DK; have EK := n_EK; clear n_HB n_DK n_EK; obtain ⟨hd0, hd1, -, -⟩ := bk2 DK.out; obtain ⟨ha0, ha1, ha2, ha3, ha4, ha5, ha6, ha7, ha8, ha9, ha10, ha11⟩ := bk12 EK.out))
      obtain ⟨ad, A2, c2, A5, c5, x_, x0, x1, x2, x3, x4, x5, l2, C2, l5, C5⟩ := at_T43 HC.out e1 x01.1 x01.2
      have HC2 := aS C2
      have HL2 := aS l2
      have HC5 := aS C5
      have HL5 := aS l5
      clear C2 C5 l2 l5
      subst x_
      replace x0 := (HB.out.cell (World.block_lt_of_cell? _ _ x0)).trans x0
      replace x1 := (HB.out.cell (World.block_lt_of_cell? _ _ x1)).trans x1
      replace x2 := (HB.out.cell (World.block_lt_of_cell? _ _ x2)).trans x2
      replace x3 := (HB.out.cell (World.block_lt_of_cell? _ _ x3)).trans x3
      replace x4 := (HB.out.cell (World.block_lt_of_cell? _ _ x4)).trans x4
      replace x5 := (HB.out.cell (World.block_lt_of_cell? _ _ x5)).trans x5
      have p0 := eq_true x01.1
      have p1 := eq_true x01.2
      clear x01
      go_upto_region 13 with ((with_reducible refine q07 (N := 6) rfl ?_); refine box1 rfl (N := 6) rfl (cs := #[.int .i64 0, .string (⟨#[]⟩ : ByteArray), .slice none 0 0, .string (⟨#[]⟩ : ByteArray), .int .i64 0, .slice none 0 0]) (t := 43) zh ?_; intro gx wx XK GX XS; obtain ⟨hv0, hv1, hv2, hv3, hv4, hv5, hvf0, hvf1, hvf2, hvf3, hvf4, hvf5⟩ := bk6 XK.out)
      have n_B := aS (ed_sixo (.int .i64 (q00 l0 e1).f0) (.string (q00 l0 e1).f1) (.slice A2 (q00 l0 e1).f2.length c2) (.string (q00 l0 e1).f3) (.int .i64 (q00 l0 e1).f4) (.slice A5 (q00 l0 e1).f5.length c5) XS.out GX.out XK.out)
      have n_X := aS n_B.out.2
      have hbl := n_B.out.1
      clear XK XS GX n_B hv0 hv1 hv2 hv3 hv4 hv5 hvf0 hvf1 hvf2 hvf3 hvf4 hvf5 x0 x1 x2 x3 x4 x5 p0 p1
      generalize ((((((wx.setCell ⟨gx, 0, none⟩ (.int .i64 (q00 l0 e1).f0)).setCell ⟨gx, 1, none⟩ (.string (q00 l0 e1).f1)).setCell ⟨gx, 2, none⟩ (.slice A2 (q00 l0 e1).f2.length c2)).setCell ⟨gx, 3, none⟩ (.string (q00 l0 e1).f3)).setCell ⟨gx, 4, none⟩ (.int .i64 (q00 l0 e1).f4)).setCell ⟨gx, 5, none⟩ (.slice A5 (q00 l0 e1).f5.length c5)) = wX at hbl n_X ⊢
      have n_HB := aS (q01 HB.out hbl)
      have n_DK := aS (q02 DK.out hbl)
      have n_EK := aS (q02 EK.out hbl)
      clear hbl HB DK EK hd0 hd1 ha0 ha1 ha2 ha3 ha4 ha5 ha6 ha7 ha8 ha9 ha10 ha11
      have HB := n_HB
      have DK := n_DK
      have EK := n_EK
      clear n_HB n_DK n_EK
      obtain ⟨hd0, hd1, -, -⟩ := bk2 DK.out
      obtain ⟨ha0, ha1, ha2, ha3, ha4, ha5, ha6, ha7, ha8, ha9, ha10, ha11⟩ := bk12 EK.out
      have XK := n_X
      clear n_X
      obtain ⟨hx0, hx1, hx2, hx3, hx4, hx5, -, -, -, -, -, -⟩ := bk6 XK.out
      go_upto_region 24 with (go_at_call 64; (with_reducible refine (clerestoryref1_AttrOf.calls k A2 c2 (q00 l0 e1).f2 e4 v has _ (Kd.C_below HC2.out HB.out) HL2.out HV.out).mono ?_); rintro e w7 ⟨rfl, hdr⟩; have hbl := q0p hdr; clear hdr; have n_HB := aS (q01 HB.out hbl); have n_DK := aS (q02 DK.out hbl); have n_EK := aS (q02 EK.out hbl); have n_XK := aS (q02 XK.out hbl); clear hbl HB DK EK XK hd0 hd1 ha0 ha1 ha2 ha3 ha4 ha5 ha6 ha7 ha8 ha9 ha10 ha11 hx0 hx1 hx2 hx3 hx4 hx5; have HB := n_HB; have DK := n_DK; have EK := n_EK; have XK := n_XK; clear n_HB n_DK n_EK n_XK; obtain ⟨hd0, hd1, -, -⟩ := bk2 DK.out; obtain ⟨ha0, ha1, ha2, ha3, ha4, ha5, ha6, ha7, ha8, ha9, ha10, ha11⟩ := bk12 EK.out; obtain ⟨hx0, hx1, hx2, hx3, hx4, hx5, -, -, -, -, -, -⟩ := bk6 XK.out)
      by_cases s1 : e0 = 1
      ·rw [if_pos s1] at h
       have s1b : (e0 == 1) = true := beq_iff_eq.mpr s1
       have s1n : (e0 != 1) = false := bne_eq_false_iff_eq.mpr s1
       skip
       clear s1
       by_cases k2 : (q00 l0 e1).f0 = 2
       ·rw [if_pos k2] at h
        have k2b : ((q00 l0 e1).f0 == 2) = true := beq_iff_eq.mpr k2
        have k2n : ((q00 l0 e1).f0 != 2) = false := bne_eq_false_iff_eq.mpr k2
        skip
        clear k2
        obtain ⟨b, hb, h⟩ := Option.bind_eq_some_iff.1 h
        have HN := aS hb
        clear hb
        obtain rfl := Option.some.inj h
        cases b
        all_goals
         go_wp2_with (go_at_call 120; (with_reducible refine (clerestoryref1_domName.calls k e4 false _ _ HN.out).mono ?_); rintro e w7 ⟨rfl, hdr⟩; have hbl := q0p hdr; clear hdr; have n_HB := aS (q01 HB.out hbl); have n_XK := aS (q02 XK.out hbl); clear hbl HB XK hx0 hx1 hx2 hx3 hx4 hx5; have HB := n_HB; have XK := n_XK; clear n_HB n_XK; obtain ⟨hx0, hx1, hx2, hx3, hx4, hx5, -, -, -, -, -, -⟩ := bk6 XK.out)
         go_ret
         exact ⟨rfl, (z8 HB.out)⟩
       ·rw [if_neg k2] at h
        have k2b : ((q00 l0 e1).f0 == 2) = false := beq_eq_false_iff_ne.mpr k2
        have k2n : ((q00 l0 e1).f0 != 2) = true := bne_iff_ne.mpr k2
        obtain rfl := Option.some.inj h
        go_wp2
        go_ret
        exact ⟨rfl, (z8 HB.out)⟩
      ·rw [if_neg s1] at h
       have s1b : (e0 == 1) = false := beq_eq_false_iff_ne.mpr s1
       have s1n : (e0 != 1) = true := bne_iff_ne.mpr s1
       by_cases s2 : e0 = 2
       ·rw [if_pos s2] at h
        have s2b : (e0 == 2) = true := beq_iff_eq.mpr s2
        have s2n : (e0 != 2) = false := bne_eq_false_iff_eq.mpr s2
        skip
        clear s2
        by_cases k2 : (q00 l0 e1).f0 = 2
        ·rw [if_pos k2] at h
         have k2b : ((q00 l0 e1).f0 == 2) = true := beq_iff_eq.mpr k2
         have k2n : ((q00 l0 e1).f0 != 2) = false := bne_eq_false_iff_eq.mpr k2
         skip
         clear k2
         obtain rfl := Option.some.inj h
         cases has
         all_goals
          go_wp2
          go_ret
          exact ⟨rfl, (z8 HB.out)⟩
        ·rw [if_neg k2] at h
         have k2b : ((q00 l0 e1).f0 == 2) = false := beq_eq_false_iff_ne.mpr k2
         have k2n : ((q00 l0 e1).f0 != 2) = true := bne_iff_ne.mpr k2
         obtain rfl := Option.some.inj h
         go_wp2
         go_ret
         exact ⟨rfl, (z8 HB.out)⟩
       ·rw [if_neg s2] at h
        have s2b : (e0 == 2) = false := beq_eq_false_iff_ne.mpr s2
        have s2n : (e0 != 2) = true := bne_iff_ne.mpr s2
        by_cases s3 : e0 = 3
        ·rw [if_pos s3] at h
         have s3b : (e0 == 3) = true := beq_iff_eq.mpr s3
         have s3n : (e0 != 3) = false := bne_eq_false_iff_eq.mpr s3
         skip
         clear s3
         by_cases k3 : (q00 l0 e1).f0 = 3
         ·rw [if_pos k3] at h
          have k3b : ((q00 l0 e1).f0 == 3) = true := beq_iff_eq.mpr k3
          have k3n : ((q00 l0 e1).f0 != 3) = false := bne_eq_false_iff_eq.mpr k3
          skip
          clear k3
          obtain rfl := Option.some.inj h
          go_wp2
          go_ret
          exact ⟨rfl, (z8 HB.out)⟩
         ·rw [if_neg k3] at h
          have k3b : ((q00 l0 e1).f0 == 3) = false := beq_eq_false_iff_ne.mpr k3
          have k3n : ((q00 l0 e1).f0 != 3) = true := bne_iff_ne.mpr k3
          by_cases k4 : (q00 l0 e1).f0 = 4
          ·rw [if_pos k4] at h
           have k4b : ((q00 l0 e1).f0 == 4) = true := beq_iff_eq.mpr k4
           have k4n : ((q00 l0 e1).f0 != 4) = false := bne_eq_false_iff_eq.mpr k4
           skip
           clear k4
           obtain rfl := Option.some.inj h
           go_wp2
           go_ret
           exact ⟨rfl, (z8 HB.out)⟩
          ·rw [if_neg k4] at h
           have k4b : ((q00 l0 e1).f0 == 4) = false := beq_eq_false_iff_ne.mpr k4
           have k4n : ((q00 l0 e1).f0 != 4) = true := bne_iff_ne.mpr k4
           obtain rfl := Option.some.inj h
           go_wp2
           go_ret
           exact ⟨rfl, (z8 HB.out)⟩
        ·rw [if_neg s3] at h
         have s3b : (e0 == 3) = false := beq_eq_false_iff_ne.mpr s3
         have s3n : (e0 != 3) = true := bne_iff_ne.mpr s3
         by_cases s6 : e0 = 6
         ·rw [if_pos s6] at h
          have s6b : (e0 == 6) = true := beq_iff_eq.mpr s6
          have s6n : (e0 != 6) = false := bne_eq_false_iff_eq.mpr s6
          skip
          clear s6
          by_cases k0 : e1 = 0
          ·rw [if_pos k0] at h
           have k0b : (e1 == 0) = true := beq_iff_eq.mpr k0
           have k0n : (e1 != 0) = false := bne_eq_false_iff_eq.mpr k0
           skip
           clear k0
           obtain rfl := Option.some.inj h
           go_wp2
           go_ret
           exact ⟨rfl, (z8 HB.out)⟩
          ·rw [if_neg k0] at h
           have k0b : (e1 == 0) = false := beq_eq_false_iff_ne.mpr k0
           have k0n : (e1 != 0) = true := bne_iff_ne.mpr k0
           by_cases kp : (q00 l0 e1).f4 < 0
           ·rw [if_pos kp] at h
            have kpb : decide ((q00 l0 e1).f4 < 0) = true := decide_eq_true kp
            obtain rfl := Option.some.inj h
            go_wp2
            go_ret
            exact ⟨rfl, (z8 HB.out)⟩
           ·rw [if_neg kp] at h
            have kpb : decide ((q00 l0 e1).f4 < 0) = false := decide_eq_false kp
            obtain rfl := Option.some.inj h
            go_wp2
            go_ret
            exact ⟨rfl, (z8 HB.out)⟩
         ·rw [if_neg s6] at h
          have s6b : (e0 == 6) = false := beq_eq_false_iff_ne.mpr s6
          have s6n : (e0 != 6) = true := bne_iff_ne.mpr s6
          exfalso
          have := HT6.out
          omega
     ·rw [if_neg x01] at h
      exact absurd h (by simp)
def clerestoryref1_copyDoc.l0 : Nat → Int → List (S43) → Bool → List (S43) → Bool → Option ((List (S43)) × Bool)
 | 0, _, _, _, _, _ => none
 | k + 1, x4, x250000, x250001, x252000, x252001 => if x4 < (x250000.length : Int) then (if 0 ≤ x4 then ((some (([] : List (S122)) : List (S122))).bind fun y254 => (if y254.length + ((q00 x250000 x4).f2).length < 4398046511104 then ((some (([] : List Int) : List Int)).bind fun y260 => (if y260.length + ((q00 x250000 x4).f5).length < 17592186044416 then (if x252000.length < 1466015503701 then (clerestoryref1_copyDoc.l0 k (wrap64 (x4 + 1)) x250000 x250001 (x252000 ++ [(⟨(q00 x250000 x4).f0, (q00 x250000 x4).f1, (y254 ++ ((q00 x250000 x4).f2)), (q00 x250000 x4).f3, (q00 x250000 x4).f4, (y260 ++ ((q00 x250000 x4).f5))⟩ : S43)]) x252001) else (none)) else (none))) else (none))) else (none)) else (some (x252000, x252001))
def clerestoryref1_copyDoc.f (k : Nat) (l0_0 : List (S43)) (a0_1 : Bool) : Option ((List (S43)) × Bool) := clerestoryref1_copyDoc.l0 k 0 l0_0 a0_1 ([] : List (S43)) a0_1
theorem clerestoryref1_copyDoc.mono_l : ∀ k, (∀ y0 y1 y2 y3 y4, LeO (clerestoryref1_copyDoc.l0 k y0 y1 y2 y3 y4) (clerestoryref1_copyDoc.l0 (k + 1) y0 y1 y2 y3 y4))
 | 0 => fun _ _ _ _ _ r h => by simp [clerestoryref1_copyDoc.l0] at h
 | k + 1 => by
  have ih0 := clerestoryref1_copyDoc.mono_l k
  ·intro y0 y1 y2 y3 y4
   unfold clerestoryref1_copyDoc.l0
   repeat' first | with_reducible first | apply ih0 | exact LeO.refl _ | exact LeO.none _ | refine LeO.ite ?_ ?_ | refine LeO.bind ?_ (fun _ => ?_) | (first | apply ih0 | exact LeO.none _ | refine LeO.ite ?_ ?_ | refine LeO.bind ?_ (fun _ => ?_))
theorem clerestoryref1_copyDoc.mono : ∀ a0 a1 k, LeO (clerestoryref1_copyDoc.f k a0 a1) (clerestoryref1_copyDoc.f (k + 1) a0 a1) := by
 intro a0 a1 k
 have ih0 := clerestoryref1_copyDoc.mono_l k
 unfold clerestoryref1_copyDoc.f
 repeat' first | with_reducible first | apply ih0 | exact LeO.refl _ | exact LeO.none _ | refine LeO.ite ?_ ?_ | refine LeO.bind ?_ (fun _ => ?_) | (first | apply ih0 | exact LeO.none _ | refine LeO.ite ?_ ?_ | refine LeO.bind ?_ (fun _ => ?_))
set_option maxHeartbeats 8000000 in
set_option maxRecDepth 100000 in
theorem clerestoryref1_copyDoc.calls (k : Nat) (A0_0 : Option Addr) (c0_0 : Nat) (l0_0 : List (S43)) (a0_1 : Bool) (r1 : List (S43)) (r2 : Bool) (w : World) (hr0_0 : Kd.C k43 w A0_0 l0_0.length l0_0) (hc0_0 : l0_0.length ≤ c0_0) (h : clerestoryref1_copyDoc.f k l0_0 a0_1 = some (r1, r2)) :
 Calls Tryd.prog 107 #[.agg #[.slice A0_0 l0_0.length c0_0, .bool a0_1]] w fun e w' => ∃ v0_ : Value, e = .returned (.agg #[v0_, .bool r2]) ∧ Kd.S k43 43 w' w.heap.size (fun _ => True) v0_ r1 ∧ Below w.heap.size w w' := by
 have hu24 := Tryd.underlying24
 have hu43 := Tryd.underlying43
 have HR0_0 := aS hr0_0
 have HC0_0 := aS hc0_0
 clear hr0_0 hc0_0
 have HB := aS (Below.refl w.heap.size w)
 have H := h; clear h; unfold clerestoryref1_copyDoc.f at H
 have H' := aS H
 clear H
 go_enter Tryd.func107, Tryd.ntmps107
 go_wp2_with (first | ((with_reducible refine q07 (N := 1) rfl ?_); refine box0 rfl (N := 1) rfl (cs := #[.slice A0_0 l0_0.length c0_0, .bool a0_1]) (t := 24) zh (z7 HB.out) ?_; clear HB; intro gb249 w2 BK249 GW249 HB; have GE249 := GW249) | ((with_reducible refine q07 (N := 2) rfl ?_); refine q0t ?hg (N := 2) ?hd (cs := #[.slice none 0 0, .bool false]) (t := 24) ?hr ?_; (case hd => rfl); (case hg => rfl); (case hr => first | (go_simp; done) | (go_simp; rfl)); intro gb250 hg w3 hbox hb; have n0_ := aS (q02 (g := gb249) (o := .cells #[.slice A0_0 l0_0.length c0_0, .bool a0_1] 24 (0, 0)) (za BK249.out) hb); have n1_ := aS (q01 (z6 HB.out GE249.out) hb); have n2_ := aS (hbox); have n3_ := aS ((by rw [hg]; exact (q0c (z6 HB.out GE249.out)) : w.heap.size ≤ gb250)); have n4_ := aS ((by rw [hg]; exact (q0c (z6 HB.out GE249.out)) : w.heap.size ≤ gb250)); have n5_ := aS ((by rw [hg]; exact Nat.ne_of_lt (q0a (g := gb249) (o := .cells #[.slice A0_0 l0_0.length c0_0, .bool a0_1] 24 (0, 0)) (za BK249.out)) : gb249 ≠ gb250)); have n6_ := aS ((by rw [hg]; exact Nat.ne_of_gt (q0a (g := gb249) (o := .cells #[.slice A0_0 l0_0.length c0_0, .bool a0_1] 24 (0, 0)) (za BK249.out)) : gb250 ≠ gb249)); clear BK249; clear HB; have BK249 := n0_; have HB := n1_; have BK250 := n2_; have GW250 := n3_; have GE250 := n4_; have NB249_250 := n5_; have NB250_249 := n6_; clear n0_ n1_ n2_ n3_ n4_ n5_ n6_; clear hb hbox hg; have hnb4 := NB249_250.out; have hnc4 := NB250_249.out; obtain ⟨hcz5_0, hcz5_1, hfz5_0, hfz5_1⟩ := bk2 BK249.out) | ((with_reducible refine q07 (N := 3) rfl ?_); refine q0t ?hg (N := 3) ?hd (cs := #[.slice none 0 0, .bool false]) (t := 24) ?hr ?_; (case hd => rfl); (case hg => rfl); (case hr => first | (go_simp; done) | (go_simp; rfl)); intro gb251 hg w6 hbox hb; have n0_ := aS (q02 (g := gb249) (o := .cells #[.slice A0_0 l0_0.length c0_0, .bool a0_1] 24 (0, 0)) (za BK249.out) hb); have n1_ := aS (q02 (g := gb250) (o := .cells #[.slice none 0 0, .bool false] 24 (0, 0)) (za BK250.out) hb); have n2_ := aS (q01 (by repeat (first | (with_reducible first | exact HB.out | apply bA | apply bN | apply bD | refine bS ?_ GE249.out | refine bS ?_ GE250.out) | exact HB.out)) hb); have n3_ := aS (hbox); have n4_ := aS ((by rw [hg]; exact (q0c (by repeat (first | (with_reducible first | exact HB.out | apply bA | apply bN | apply bD | refine bS ?_ GE249.out | refine bS ?_ GE250.out) | exact HB.out))) : w.heap.size ≤ gb251)); have n5_ := aS ((by rw [hg]; exact (q0c (by repeat (first | (with_reducible first | exact HB.out | apply bA | apply bN | apply bD | refine bS ?_ GE249.out | refine bS ?_ GE250.out) | exact HB.out))) : w.heap.size ≤ gb251)); have n6_ := aS ((by rw [hg]; exact Nat.ne_of_lt (q0a (g := gb249) (o := .cells #[.slice A0_0 l0_0.length c0_0, .bool a0_1] 24 (0, 0)) (za BK249.out)) : gb249 ≠ gb251)); have n7_ := aS ((by rw [hg]; exact Nat.ne_of_gt (q0a (g := gb249) (o := .cells #[.slice A0_0 l0_0.length c0_0, .bool a0_1] 24 (0, 0)) (za BK249.out)) : gb251 ≠ gb249)); have n8_ := aS ((by rw [hg]; exact Nat.ne_of_lt (q0a (g := gb250) (o := .cells #[.slice none 0 0, .bool false] 24 (0, 0)) (za BK250.out)) : gb250 ≠ gb251)); have n9_ := aS ((by rw [hg]; exact Nat.ne_of_gt (q0a (g := gb250) (o := .cells #[.slice none 0 0, .bool false] 24 (0, 0)) (za BK250.out)) : gb251 ≠ gb250)); clear BK249; clear BK250; clear HB; have BK249 := n0_; have BK250 := n1_; have HB := n2_; have BK251 := n3_; have GW251 := n4_; have GE251 := n5_; have NB249_251 := n6_; have NB251_249 := n7_; have NB250_251 := n8_; have NB251_250 := n9_; clear n0_ n1_ n2_ n3_ n4_ n5_ n6_ n7_ n8_ n9_; clear hb hbox hg; have hnb7 := NB251_249.out; have hnc7 := NB249_251.out; have hnb8 := NB251_250.out; have hnc8 := NB250_251.out; obtain ⟨hcz9_0, hcz9_1, hfz9_0, hfz9_1⟩ := bk2 BK251.out))
 go_loopg [4] k (fun kq v4 w' => ∃ (x4_1 : Int) (x252000_1 : List (S43)) (u252000 : Value), v4 = .int .i64 x4_1 ∧ Aside0 (clerestoryref1_copyDoc.l0 kq x4_1 l0_0 a0_1 x252000_1 a0_1 = some (r1, r2)) ∧ Aside0 (kq ≤ k) ∧ Aside0 (Kd.S k43 43 w' w.heap.size (fun _ => True) u252000 x252000_1) ∧ Aside0 (w'.heap[gb249]? = some (.cells #[(.slice A0_0 l0_0.length c0_0), .bool a0_1] 24 (0, 0))) ∧ Aside0 (w'.heap[gb250]? = some (.cells #[(.slice none 0 0), .bool false] 24 (0, 0))) ∧ Aside0 (w'.heap[gb251]? = some (.cells #[u252000, .bool a0_1] 24 (0, 0))) ∧ Aside0 (Below w.heap.size w w'))
 case atStart => exact ⟨(0), (([] : List (S43))), (.slice none 0 0), zi, H', ⟨Nat.le_refl _⟩, ⟨by first | exact Kd.S_nil _ _ _ _ _ | exact Kd.N_nil _ _ _ _ _ | exact Kd.V_nil _ _ _ _ _ | exact Kd.Q_nil _ _ _ _ _ | exact Kd.R_nil _ _ _ _ _⟩, ⟨by (with_reducible repeat (first | refine kN ?_ _ | refine kD ?_ | refine kA ?_ _)); refine q0l ?_ NB249_251.out _; (with_reducible repeat (first | refine kN ?_ _ | refine kD ?_ | refine kA ?_ _)); refine q0l ?_ NB249_251.out _; (with_reducible repeat (first | refine kN ?_ _ | refine kD ?_ | refine kA ?_ _)); exact BK249.out⟩, ⟨by (with_reducible repeat (first | refine kN ?_ _ | refine kD ?_ | refine kA ?_ _)); refine q0l ?_ NB250_251.out _; (with_reducible repeat (first | refine kN ?_ _ | refine kD ?_ | refine kA ?_ _)); refine q0l ?_ NB250_251.out _; (with_reducible repeat (first | refine kN ?_ _ | refine kD ?_ | refine kA ?_ _)); exact BK250.out⟩, ⟨by (with_reducible repeat (first | refine kN ?_ _ | refine kD ?_ | refine kA ?_ _)); refine q0o (cs := #[.slice none 0 0, .bool false]) ?_ 1 _ rfl; (with_reducible repeat (first | refine kN ?_ _ | refine kD ?_ | refine kA ?_ _)); refine q0o (cs := #[.slice none 0 0, .bool false]) ?_ 0 _ rfl; (with_reducible repeat (first | refine kN ?_ _ | refine kD ?_ | refine kA ?_ _)); exact BK251.out⟩, ⟨by repeat (first | (with_reducible first | exact HB.out | apply bA | apply bN | apply bD | refine bS ?_ GE249.out | refine bS ?_ GE250.out | refine bS ?_ GE251.out) | exact HB.out)⟩⟩
 case round =>
  clear H'
  obtain ⟨x4_1, x252000_1, u252000, rfl, HA, HK1, HO_252000, BK249, BK250, BK251, HB⟩ := hrel
  cases gk with
  | zero => exact absurd HA.out (by simp [clerestoryref1_copyDoc.l0])
  | succ k1 =>
   have H := HA.out
   clear HA
   simp only [clerestoryref1_copyDoc.l0] at H
   refine iT H ?p10 ?n10 <;> clear H
   case' p10 =>
    intro c10b0 H
    refine iLp H ?_; clear H; intro c11b0 H
    obtain ⟨y254, hy254⟩ : ∃ y_ : List (S122), y_ = (([] : List (S122))) := ⟨_, rfl⟩
    replace H : (if y254.length + ((q00 l0_0 x4_1).f2).length < 4398046511104 then ((some (([] : List Int) : List Int)).bind fun y260 => (if y260.length + ((q00 l0_0 x4_1).f5).length < 17592186044416 then (if x252000_1.length < 1466015503701 then (clerestoryref1_copyDoc.l0 k1 (wrap64 (x4_1 + 1)) l0_0 a0_1 (x252000_1 ++ [(⟨(q00 l0_0 x4_1).f0, (q00 l0_0 x4_1).f1, (y254 ++ ((q00 l0_0 x4_1).f2)), (q00 l0_0 x4_1).f3, (q00 l0_0 x4_1).f4, (y260 ++ ((q00 l0_0 x4_1).f5))⟩ : S43)]) a0_1) else (none)) else (none))) else (none)) = some (r1, r2) := by first | (rw [hy254]; with_reducible exact H) | (have H2_ := (Option.bind_some _ _).symm.trans H; rw [hy254]; with_reducible exact H2_) | (have H2_ := (Option.bind_some _ _).symm.trans H; with_reducible exact H2_) | with_reducible exact H | (rw [hy254]; exact H) | exact H
    have Ny254 := aS hy254
    clear hy254
    refine iGp H ?_; clear H; intro c12 H
    have LMc12 := aS c12
    clear c12
    obtain ⟨y257, hy257⟩ : ∃ y_ : List (S122), y_ = (y254 ++ ((q00 l0_0 x4_1).f2)) := ⟨_, rfl⟩
    replace H : ((some (([] : List Int) : List Int)).bind fun y260 => (if y260.length + ((q00 l0_0 x4_1).f5).length < 17592186044416 then (if x252000_1.length < 1466015503701 then (clerestoryref1_copyDoc.l0 k1 (wrap64 (x4_1 + 1)) l0_0 a0_1 (x252000_1 ++ [(⟨(q00 l0_0 x4_1).f0, (q00 l0_0 x4_1).f1, y257, (q00 l0_0 x4_1).f3, (q00 l0_0 x4_1).f4, (y260 ++ ((q00 l0_0 x4_1).f5))⟩ : S43)]) a0_1) else (none)) else (none))) = some (r1, r2) := by first | (rw [hy257]; with_reducible exact H) | (have H2_ := (Option.bind_some _ _).symm.trans H; rw [hy257]; with_reducible exact H2_) | (have H2_ := (Option.bind_some _ _).symm.trans H; with_reducible exact H2_) | with_reducible exact H | (rw [hy257]; exact H) | exact H
    have Ny257 := aS hy257
    clear hy257
    obtain ⟨y260, hy260⟩ : ∃ y_ : List Int, y_ = (([] : List Int)) := ⟨_, rfl⟩
    replace H : (if y260.length + ((q00 l0_0 x4_1).f5).length < 17592186044416 then (if x252000_1.length < 1466015503701 then (clerestoryref1_copyDoc.l0 k1 (wrap64 (x4_1 + 1)) l0_0 a0_1 (x252000_1 ++ [(⟨(q00 l0_0 x4_1).f0, (q00 l0_0 x4_1).f1, y257, (q00 l0_0 x4_1).f3, (q00 l0_0 x4_1).f4, (y260 ++ ((q00 l0_0 x4_1).f5))⟩ : S43)]) a0_1) else (none)) else (none)) = some (r1, r2) := by first | (rw [hy260]; with_reducible exact H) | (have H2_ := (Option.bind_some _ _).symm.trans H; rw [hy260]; with_reducible exact H2_) | (have H2_ := (Option.bind_some _ _).symm.trans H; with_reducible exact H2_) | with_reducible exact H | (rw [hy260]; exact H) | exact H
    have Ny260 := aS hy260
    clear hy260
    refine iGp H ?_; clear H; intro c13 H
    have LMc13 := aS c13
    clear c13
    obtain ⟨y263, hy263⟩ : ∃ y_ : List Int, y_ = (y260 ++ ((q00 l0_0 x4_1).f5)) := ⟨_, rfl⟩
    replace H : (if x252000_1.length < 1466015503701 then (clerestoryref1_copyDoc.l0 k1 (wrap64 (x4_1 + 1)) l0_0 a0_1 (x252000_1 ++ [(⟨(q00 l0_0 x4_1).f0, (q00 l0_0 x4_1).f1, y257, (q00 l0_0 x4_1).f3, (q00 l0_0 x4_1).f4, y263⟩ : S43)]) a0_1) else (none)) = some (r1, r2) := by first | (rw [hy263]; with_reducible exact H) | (have H2_ := (Option.bind_some _ _).symm.trans H; rw [hy263]; with_reducible exact H2_) | (have H2_ := (Option.bind_some _ _).symm.trans H; with_reducible exact H2_) | with_reducible exact H | (rw [hy263]; exact H) | exact H
    have Ny263 := aS hy263
    clear hy263
    refine iGp H ?_; clear H; intro c14 H
   case' n10 => intro c10b0 H
   case p10 =>
    have LMc14 := aS c14
    clear c14
    obtain ⟨y266, hy266⟩ : ∃ y_ : List (S43), y_ = (x252000_1 ++ [(⟨(q00 l0_0 x4_1).f0, (q00 l0_0 x4_1).f1, y257, (q00 l0_0 x4_1).f3, (q00 l0_0 x4_1).f4, y263⟩ : S43)]) := ⟨_, rfl⟩
    replace H : (clerestoryref1_copyDoc.l0 k1 (wrap64 (x4_1 + 1)) l0_0 a0_1 y266 a0_1) = some (r1, r2) := by first | (rw [hy266]; with_reducible exact H) | (have H2_ := (Option.bind_some _ _).symm.trans H; rw [hy266]; with_reducible exact H2_) | (have H2_ := (Option.bind_some _ _).symm.trans H; with_reducible exact H2_) | with_reducible exact H | (rw [hy266]; exact H) | exact H
    have Ny266 := aS hy266
    clear hy266
    have H' := aS H
    clear H
    have hnb15 := NB249_250.out
    have hnc15 := NB250_249.out
    have hnb16 := NB249_251.out
    have hnc16 := NB251_249.out
    obtain ⟨hczL_0, hczL_1, hfzL_0, hfzL_1⟩ := bk2 BK249.out
    obtain ⟨ad252, A252_2, c252_2, A252_5, c252_5, e252, hx252_0, hx252_1, hx252_2, hx252_3, hx252_4, hx252_5, HC252_2, HR252_2, HC252_5, HR252_5, p252, q252⟩ := q0w HB.out HR0_0.out x4_1 zb zb
    cases e252
    go_wp2_with (first | ((with_reducible refine q07 (N := 5) rfl ?_); refine q0t ?hg (N := 5) ?hd (cs := #[.int .i64 0, .string (⟨#[]⟩ : ByteArray), .slice none 0 0, .string (⟨#[]⟩ : ByteArray), .int .i64 0, .slice none 0 0]) (t := 43) ?hr ?_; (case hd => rfl); (case hg => rfl); (case hr => first | (go_simp; done) | (go_simp; rfl)); intro gb253 hg w18 hbox hb; have n0_ := aS (Kd.S_below (Kd.S_elderB (zg HO_252000.out) gb253 (Nat.le_of_eq hg.symm)) hb); have n1_ := aS (q02 (g := gb249) (o := .cells #[.slice (some ad252) l0_0.length c0_0, .bool a0_1] 24 (0, 0)) (za BK249.out) hb); have n2_ := aS (q02 (g := gb250) (o := .cells #[.slice none 0 0, .bool false] 24 (0, 0)) (za BK250.out) hb); have n3_ := aS (q02 (g := gb251) (o := .cells #[u252000, .bool a0_1] 24 (0, 0)) (za BK251.out) hb); have n4_ := aS (q01 (by repeat (first | (with_reducible first | exact HB.out | apply bA | apply bN | apply bD | refine bS ?_ GE249.out | refine bS ?_ GE250.out | refine bS ?_ GE251.out) | exact HB.out)) hb); have n5_ := aS (hbox); have n6_ := aS ((by rw [hg]; exact (q0c (by repeat (first | (with_reducible first | exact HB.out | apply bA | apply bN | apply bD | refine bS ?_ GE249.out | refine bS ?_ GE250.out | refine bS ?_ GE251.out) | exact HB.out))) : w.heap.size ≤ gb253)); have n7_ := aS ((by rw [hg]; exact (q0c (by repeat (first | (with_reducible first | exact HB.out | apply bA | apply bN | apply bD | refine bS ?_ GE249.out | refine bS ?_ GE250.out | refine bS ?_ GE251.out) | exact HB.out))) : w.heap.size ≤ gb253)); have n8_ := aS ((by rw [hg]; exact Nat.ne_of_lt (q0a (g := gb249) (o := .cells #[.slice (some ad252) l0_0.length c0_0, .bool a0_1] 24 (0, 0)) (za BK249.out)) : gb249 ≠ gb253)); have n9_ := aS ((by rw [hg]; exact Nat.ne_of_gt (q0a (g := gb249) (o := .cells #[.slice (some ad252) l0_0.length c0_0, .bool a0_1] 24 (0, 0)) (za BK249.out)) : gb253 ≠ gb249)); have n10_ := aS ((by rw [hg]; exact Nat.ne_of_lt (q0a (g := gb250) (o := .cells #[.slice none 0 0, .bool false] 24 (0, 0)) (za BK250.out)) : gb250 ≠ gb253)); have n11_ := aS ((by rw [hg]; exact Nat.ne_of_gt (q0a (g := gb250) (o := .cells #[.slice none 0 0, .bool false] 24 (0, 0)) (za BK250.out)) : gb253 ≠ gb250)); have n12_ := aS ((by rw [hg]; exact Nat.ne_of_lt (q0a (g := gb251) (o := .cells #[u252000, .bool a0_1] 24 (0, 0)) (za BK251.out)) : gb251 ≠ gb253)); have n13_ := aS ((by rw [hg]; exact Nat.ne_of_gt (q0a (g := gb251) (o := .cells #[u252000, .bool a0_1] 24 (0, 0)) (za BK251.out)) : gb253 ≠ gb251)); clear HO_252000; clear BK249; clear BK250; clear BK251; clear HB; have HO_252000 := n0_; have BK249 := n1_; have BK250 := n2_; have BK251 := n3_; have HB := n4_; have BK253 := n5_; have GW253 := n6_; have GE253 := n7_; have NB249_253 := n8_; have NB253_249 := n9_; have NB250_253 := n10_; have NB253_250 := n11_; have NB251_253 := n12_; have NB253_251 := n13_; clear n0_ n1_ n2_ n3_ n4_ n5_ n6_ n7_ n8_ n9_ n10_ n11_ n12_ n13_; clear hb hbox hg; have hnb19 := NB253_249.out; have hnc19 := NB249_253.out; have hnb20 := NB253_250.out; have hnc20 := NB250_253.out; have hnb21 := NB253_251.out; have hnc21 := NB251_253.out; obtain ⟨hczL_0, hczL_1, hczL_2, hczL_3, hczL_4, hczL_5, hfzL_0, hfzL_1, hfzL_2, hfzL_3, hfzL_4, hfzL_5⟩ := bk6 BK253.out) | ((with_reducible refine q07 (N := 21) rfl ?_); refine Kd.R_lit k122 _ 122 ?hg (N := 21) ?hd (xs := ([] : List (S122))) (inner := []) (ok := fun _ => True) (okp := fun _ => True) ?hr ?hp (fun _ hk => hk) trivial (Below.refl _ _) (Nat.le_refl _) (by simp) ?_; (case hd => rfl); (case hg => rfl); (case hr => first | (go_simp; done) | (go_simp; rfl)); (case hp => exact (Reps.none _ _)); intro v255 w23 ho24 hb hg_ hnew_; clear hg_ hnew_; (first | rw [← Ny254.out] at ho24 | (simp only [Int.reduceToNat] at ho24; rw [← Ny254.out] at ho24)); replace HO_252000 := aS (Kd.S_elder' (by (with_reducible repeat (first | apply sA | apply sN | apply sD)); exact (Kd.S_mono (Kd.S_far (p := ⟨gb253, 5, none⟩) (Kd.S_far (p := ⟨gb253, 4, none⟩) (Kd.S_far (p := ⟨gb253, 3, none⟩) (Kd.S_far (p := ⟨gb253, 2, none⟩) (Kd.S_far (p := ⟨gb253, 1, none⟩) (Kd.S_far (p := ⟨gb253, 0, none⟩) (Kd.S_mono HO_252000.out (fun k_ hk => (⟨hk, hk.2⟩ : _ ∧ k_ ≠ gb253))) (fun _ hk => hk.2) (.int .i64 ((q00 l0_0 x4_1).f0))) (fun _ hk => hk.2) (.string ((q00 l0_0 x4_1).f1))) (fun _ hk => hk.2) (.slice A252_2 ((q00 l0_0 x4_1).f2).length c252_2)) (fun _ hk => hk.2) (.string ((q00 l0_0 x4_1).f3))) (fun _ hk => hk.2) (.int .i64 ((q00 l0_0 x4_1).f4))) (fun _ hk => hk.2) (.slice A252_5 ((q00 l0_0 x4_1).f5).length c252_5)) (fun _ h_ => h_.1))) (Kd.R_base ho24) hb); have HO256 := aS (Kd.R_lower ho24 (q0c (by repeat (first | (with_reducible first | exact HB.out | apply bA | apply bN | apply bD | refine bS ?_ GE249.out | refine bS ?_ GE250.out | refine bS ?_ GE251.out | refine bS ?_ GE253.out) | exact HB.out)))); replace BK249 := aS (q02 (g := gb249) (o := .cells #[.slice (some ad252) l0_0.length c0_0, .bool a0_1] 24 (0, 0)) (by (with_reducible repeat (first | refine kN ?_ _ | refine kD ?_ | refine kA ?_ _)); refine q0l ?_ NB249_253.out _; (with_reducible repeat (first | refine kN ?_ _ | refine kD ?_ | refine kA ?_ _)); refine q0l ?_ NB249_253.out _; (with_reducible repeat (first | refine kN ?_ _ | refine kD ?_ | refine kA ?_ _)); refine q0l ?_ NB249_253.out _; (with_reducible repeat (first | refine kN ?_ _ | refine kD ?_ | refine kA ?_ _)); refine q0l ?_ NB249_253.out _; (with_reducible repeat (first | refine kN ?_ _ | refine kD ?_ | refine kA ?_ _)); refine q0l ?_ NB249_253.out _; (with_reducible repeat (first | refine kN ?_ _ | refine kD ?_ | refine kA ?_ _)); refine q0l ?_ NB249_253.out _; (with_reducible repeat (first | refine kN ?_ _ | refine kD ?_ | refine kA ?_ _)); exact BK249.out) hb); replace BK250 := aS (q02 (g := gb250) (o := .cells #[.slice none 0 0, .bool false] 24 (0, 0)) (by (with_reducible repeat (first | refine kN ?_ _ | refine kD ?_ | refine kA ?_ _)); refine q0l ?_ NB250_253.out _; (with_reducible repeat (first | refine kN ?_ _ | refine kD ?_ | refine kA ?_ _)); refine q0l ?_ NB250_253.out _; (with_reducible repeat (first | refine kN ?_ _ | refine kD ?_ | refine kA ?_ _)); refine q0l ?_ NB250_253.out _; (with_reducible repeat (first | refine kN ?_ _ | refine kD ?_ | refine kA ?_ _)); refine q0l ?_ NB250_253.out _; (with_reducible repeat (first | refine kN ?_ _ | refine kD ?_ | refine kA ?_ _)); refine q0l ?_ NB250_253.out _; (with_reducible repeat (first | refine kN ?_ _ | refine kD ?_ | refine kA ?_ _)); refine q0l ?_ NB250_253.out _; (with_reducible repeat (first | refine kN ?_ _ | refine kD ?_ | refine kA ?_ _)); exact BK250.out) hb); replace BK251 := aS (q02 (g := gb251) (o := .cells #[u252000, .bool a0_1] 24 (0, 0)) (by (with_reducible repeat (first | refine kN ?_ _ | refine kD ?_ | refine kA ?_ _)); refine q0l ?_ NB251_253.out _; (with_reducible repeat (first | refine kN ?_ _ | refine kD ?_ | refine kA ?_ _)); refine q0l ?_ NB251_253.out _; (with_reducible repeat (first | refine kN ?_ _ | refine kD ?_ | refine kA ?_ _)); refine q0l ?_ NB251_253.out _; (with_reducible repeat (first | refine kN ?_ _ | refine kD ?_ | refine kA ?_ _)); refine q0l ?_ NB251_253.out _; (with_reducible repeat (first | refine kN ?_ _ | refine kD ?_ | refine kA ?_ _)); refine q0l ?_ NB251_253.out _; (with_reducible repeat (first | refine kN ?_ _ | refine kD ?_ | refine kA ?_ _)); refine q0l ?_ NB251_253.out _; (with_reducible repeat (first | refine kN ?_ _ | refine kD ?_ | refine kA ?_ _)); exact BK251.out) hb); replace BK253 := aS (q02 (g := gb253) (o := .cells #[.int .i64 ((q00 l0_0 x4_1).f0), .string ((q00 l0_0 x4_1).f1), .slice A252_2 ((q00 l0_0 x4_1).f2).length c252_2, .string ((q00 l0_0 x4_1).f3), .int .i64 ((q00 l0_0 x4_1).f4), .slice A252_5 ((q00 l0_0 x4_1).f5).length c252_5] 43 (0, 0)) (by (with_reducible repeat (first | refine kN ?_ _ | refine kD ?_ | refine kA ?_ _)); refine q0o (cs := #[.int .i64 ((q00 l0_0 x4_1).f0), .string ((q00 l0_0 x4_1).f1), .slice A252_2 ((q00 l0_0 x4_1).f2).length c252_2, .string ((q00 l0_0 x4_1).f3), .int .i64 ((q00 l0_0 x4_1).f4), .slice none 0 0]) ?_ 5 _ rfl; (with_reducible repeat (first | refine kN ?_ _ | refine kD ?_ | refine kA ?_ _)); refine q0o (cs := #[.int .i64 ((q00 l0_0 x4_1).f0), .string ((q00 l0_0 x4_1).f1), .slice A252_2 ((q00 l0_0 x4_1).f2).length c252_2, .string ((q00 l0_0 x4_1).f3), .int .i64 0, .slice none 0 0]) ?_ 4 _ rfl; (with_reducible repeat (first | refine kN ?_ _ | refine kD ?_ | refine kA ?_ _)); refine q0o (cs := #[.int .i64 ((q00 l0_0 x4_1).f0), .string ((q00 l0_0 x4_1).f1), .slice A252_2 ((q00 l0_0 x4_1).f2).length c252_2, .string (⟨#[]⟩ : ByteArray), .int .i64 0, .slice none 0 0]) ?_ 3 _ rfl; (with_reducible repeat (first | refine kN ?_ _ | refine kD ?_ | refine kA ?_ _)); refine q0o (cs := #[.int .i64 ((q00 l0_0 x4_1).f0), .string ((q00 l0_0 x4_1).f1), .slice none 0 0, .string (⟨#[]⟩ : ByteArray), .int .i64 0, .slice none 0 0]) ?_ 2 _ rfl; (with_reducible repeat (first | refine kN ?_ _ | refine kD ?_ | refine kA ?_ _)); refine q0o (cs := #[.int .i64 ((q00 l0_0 x4_1).f0), .string (⟨#[]⟩ : ByteArray), .slice none 0 0, .string (⟨#[]⟩ : ByteArray), .int .i64 0, .slice none 0 0]) ?_ 1 _ rfl; (with_reducible repeat (first | refine kN ?_ _ | refine kD ?_ | refine kA ?_ _)); refine q0o (cs := #[.int .i64 0, .string (⟨#[]⟩ : ByteArray), .slice none 0 0, .string (⟨#[]⟩ : ByteArray), .int .i64 0, .slice none 0 0]) ?_ 0 _ rfl; (with_reducible repeat (first | refine kN ?_ _ | refine kD ?_ | refine kA ?_ _)); exact BK253.out) hb); replace HB := aS (q01 (by repeat (first | (with_reducible first | exact HB.out | apply bA | apply bN | apply bD | refine bS ?_ GE249.out | refine bS ?_ GE250.out | refine bS ?_ GE251.out | refine bS ?_ GE253.out) | exact HB.out)) hb); clear hb ho24; obtain ⟨hczL_0, hczL_1, hczL_2, hczL_3, hczL_4, hczL_5, hfzL_0, hfzL_1, hfzL_2, hfzL_3, hfzL_4, hfzL_5⟩ := bk6 BK253.out) | ((with_reducible refine q1m (b := .append) (xs := #[.tmp 21, .tmp 23]) rfl ?_); at_builtin; refine Kd.R_append_rows k122 (w0 := w) w.heap.size rfl (.tmp 21) (.tmp 23) 41 122 (.agg #[(.string ⟨#[]⟩), (.string ⟨#[]⟩)]) 32 rfl Tryd.underlying41 q1u rfl (by decide) (by omega) v255 y254 ((q00 l0_0 x4_1).f2) _ _ _ (fun _ => True) (fun _ => False) rfl rfl ?aO ?aR (fun _ _ h => h) (fun _ h => h.elim) ?aF ?aB ?aS ?aL ?_; (case aR => repeat (first | exact (Kd.C_below HR252_2.out HB.out) | (with_reducible refine cA ?_ _) | (with_reducible refine cN ?_ _) | (with_reducible refine cD ?_))); (case aB => exact (by repeat (first | (with_reducible first | exact HB.out | apply bA | apply bN | apply bD | refine bS ?_ GE249.out | refine bS ?_ GE250.out | refine bS ?_ GE251.out | refine bS ?_ GE253.out) | exact HB.out))); (case aF => exact (fun _ _ => trivial)); (case aO => exact (zf HO256.out)); (case aS => exact (q0c (by repeat (first | (with_reducible first | exact HB.out | apply bA | apply bN | apply bD | refine bS ?_ GE249.out | refine bS ?_ GE250.out | refine bS ?_ GE251.out | refine bS ?_ GE253.out) | exact HB.out)))); (case aL => have := LMc12.out; omega); intro v258 w26 ho hb hg hat; rw [← Ny257.out] at ho; have n0_ := aS (Kd.S_after (ok := (fun k_ => k_ ≠ gb253)) (by (with_reducible repeat (first | apply sA | apply sN | apply sD)); exact Kd.S_mono HO_252000.out (fun _ hk => ⟨hk.1.2, hk.2⟩)) hg hat); have n1_ := aS (q1b (g := gb249) (o := .cells #[.slice (some ad252) l0_0.length c0_0, .bool a0_1] 24 (0, 0)) (za BK249.out) hg (Kd.R_ne HO256.out BK249.out (by decide))); have n2_ := aS (q1b (g := gb250) (o := .cells #[.slice none 0 0, .bool false] 24 (0, 0)) (za BK250.out) hg (Kd.R_ne HO256.out BK250.out (by decide))); have n3_ := aS (q1b (g := gb251) (o := .cells #[u252000, .bool a0_1] 24 (0, 0)) (za BK251.out) hg (Kd.R_ne HO256.out BK251.out (by decide))); have n4_ := aS (q1b (g := gb253) (o := .cells #[.int .i64 ((q00 l0_0 x4_1).f0), .string ((q00 l0_0 x4_1).f1), .slice A252_2 ((q00 l0_0 x4_1).f2).length c252_2, .string ((q00 l0_0 x4_1).f3), .int .i64 ((q00 l0_0 x4_1).f4), .slice A252_5 ((q00 l0_0 x4_1).f5).length c252_5] 43 (0, 0)) (za BK253.out) hg (Kd.R_ne HO256.out BK253.out (by decide))); have n5_ := aS (hb); have n6_ := aS (ho); clear HO_252000; clear BK249; clear BK250; clear BK251; clear BK253; clear HB; clear HO256; have HO_252000 := n0_; have BK249 := n1_; have BK250 := n2_; have BK251 := n3_; have BK253 := n4_; have HB := n5_; have HO259 := n6_; clear n0_ n1_ n2_ n3_ n4_ n5_ n6_; clear ho hb hg hat; obtain ⟨Ao27, co27, eo27⟩ := Kd.R_slice HO259.out; subst eo27; obtain ⟨hczL_0, hczL_1, hczL_2, hczL_3, hczL_4, hczL_5, hfzL_0, hfzL_1, hfzL_2, hfzL_3, hfzL_4, hfzL_5⟩ := bk6 BK253.out) | ((with_reducible refine q07 (N := 26) rfl ?_); refine Kd.R_lit (Kd.int .i64) _ 3 ?hg (N := 26) ?hd (xs := ([] : List Int)) (inner := []) (ok := fun _ => True) (okp := fun _ => True) ?hr ?hp (fun _ hk => hk) trivial (Below.refl _ _) (Nat.le_refl _) (by simp) ?_; (case hd => rfl); (case hg => rfl); (case hr => first | (go_simp; done) | (go_simp; rfl)); (case hp => exact (Reps.none _ _)); intro v261 w29 ho30 hb hg_ hnew_; clear hg_ hnew_; (first | rw [← Ny260.out] at ho30 | (simp only [Int.reduceToNat] at ho30; rw [← Ny260.out] at ho30)); replace HO_252000 := aS (Kd.S_elder' (by (with_reducible repeat (first | apply sA | apply sN | apply sD)); exact (Kd.S_mono (Kd.S_far (p := ⟨gb253, 2, none⟩) (Kd.S_mono HO_252000.out (fun k_ hk => (⟨hk, hk.1⟩ : _ ∧ k_ ≠ gb253))) (fun _ hk => hk.2) (.slice Ao27 y257.length co27)) (fun _ h_ => h_.1))) (Kd.R_base ho30) hb); replace HO259 := aS (Kd.R_below (by (with_reducible repeat (first | apply rA | apply rN | apply rD)); exact (Kd.R_mono (Kd.R_far (p := ⟨gb253, 2, none⟩) (Kd.R_types HO259.out BK253.out (by decide)) (fun _ hk => hk.2) (.slice Ao27 y257.length co27)) (fun _ h_ => h_.1))) hb); have HO262 := aS (Kd.R_lower ho30 (q0c (by repeat (first | (with_reducible first | exact HB.out | apply bA | apply bN | apply bD | refine bS ?_ GE249.out | refine bS ?_ GE250.out | refine bS ?_ GE251.out | refine bS ?_ GE253.out) | exact HB.out)))); replace BK249 := aS (q02 (g := gb249) (o := .cells #[.slice (some ad252) l0_0.length c0_0, .bool a0_1] 24 (0, 0)) (by (with_reducible repeat (first | refine kN ?_ _ | refine kD ?_ | refine kA ?_ _)); refine q0l ?_ NB249_253.out _; (with_reducible repeat (first | refine kN ?_ _ | refine kD ?_ | refine kA ?_ _)); exact BK249.out) hb); replace BK250 := aS (q02 (g := gb250) (o := .cells #[.slice none 0 0, .bool false] 24 (0, 0)) (by (with_reducible repeat (first | refine kN ?_ _ | refine kD ?_ | refine kA ?_ _)); refine q0l ?_ NB250_253.out _; (with_reducible repeat (first | refine kN ?_ _ | refine kD ?_ | refine kA ?_ _)); exact BK250.out) hb); replace BK251 := aS (q02 (g := gb251) (o := .cells #[u252000, .bool a0_1] 24 (0, 0)) (by (with_reducible repeat (first | refine kN ?_ _ | refine kD ?_ | refine kA ?_ _)); refine q0l ?_ NB251_253.out _; (with_reducible repeat (first | refine kN ?_ _ | refine kD ?_ | refine kA ?_ _)); exact BK251.out) hb); replace BK253 := aS (q02 (g := gb253) (o := .cells #[.int .i64 ((q00 l0_0 x4_1).f0), .string ((q00 l0_0 x4_1).f1), .slice Ao27 y257.length co27, .string ((q00 l0_0 x4_1).f3), .int .i64 ((q00 l0_0 x4_1).f4), .slice A252_5 ((q00 l0_0 x4_1).f5).length c252_5] 43 (0, 0)) (by (with_reducible repeat (first | refine kN ?_ _ | refine kD ?_ | refine kA ?_ _)); refine q0o (cs := #[.int .i64 ((q00 l0_0 x4_1).f0), .string ((q00 l0_0 x4_1).f1), .slice A252_2 ((q00 l0_0 x4_1).f2).length c252_2, .string ((q00 l0_0 x4_1).f3), .int .i64 ((q00 l0_0 x4_1).f4), .slice A252_5 ((q00 l0_0 x4_1).f5).length c252_5]) ?_ 2 _ rfl; (with_reducible repeat (first | refine kN ?_ _ | refine kD ?_ | refine kA ?_ _)); exact BK253.out) hb); replace HB := aS (q01 (by repeat (first | (with_reducible first | exact HB.out | apply bA | apply bN | apply bD | refine bS ?_ GE249.out | refine bS ?_ GE250.out | refine bS ?_ GE251.out | refine bS ?_ GE253.out) | exact HB.out)) hb); clear hb ho30; obtain ⟨hczL_0, hczL_1, hczL_2, hczL_3, hczL_4, hczL_5, hfzL_0, hfzL_1, hfzL_2, hfzL_3, hfzL_4, hfzL_5⟩ := bk6 BK253.out) | ((with_reducible refine q1m (b := .append) (xs := #[.tmp 26, .tmp 28]) rfl ?_); at_builtin; refine Kd.R_append_rows (Kd.int .i64) (w0 := w) w.heap.size rfl (.tmp 26) (.tmp 28) 31 3 (.int .i64 0) 8 rfl Tryd.underlying31 info3 rfl (by decide) (by omega) v261 y260 ((q00 l0_0 x4_1).f5) _ _ _ (fun _ => True) (fun _ => False) rfl rfl ?aO ?aR (fun _ _ h => h) (fun _ h => h.elim) ?aF ?aB ?aS ?aL ?_; (case aR => repeat (first | exact (Kd.C_below HR252_5.out HB.out) | (with_reducible refine cA ?_ _) | (with_reducible refine cN ?_ _) | (with_reducible refine cD ?_))); (case aB => exact (by repeat (first | (with_reducible first | exact HB.out | apply bA | apply bN | apply bD | refine bS ?_ GE249.out | refine bS ?_ GE250.out | refine bS ?_ GE251.out | refine bS ?_ GE253.out) | exact HB.out))); (case aF => exact (fun _ _ => trivial)); (case aO => exact (zf HO262.out)); (case aS => exact (q0c (by repeat (first | (with_reducible first | exact HB.out | apply bA | apply bN | apply bD | refine bS ?_ GE249.out | refine bS ?_ GE250.out | refine bS ?_ GE251.out | refine bS ?_ GE253.out) | exact HB.out)))); (case aL => have := LMc13.out; omega); intro v264 w32 ho hb hg hat; rw [← Ny263.out] at ho; have n0_ := aS (Kd.S_after (ok := (fun k_ => some k_ ≠ (.slice Ao27 y257.length co27 : Value).ownBlock ∧ k_ ≠ gb253)) (by (with_reducible repeat (first | apply sA | apply sN | apply sD)); exact Kd.S_mono HO_252000.out (fun _ hk => ⟨⟨hk.1.2, hk.1.1⟩, hk.2⟩)) hg hat); have n1_ := aS (q1b (g := gb249) (o := .cells #[.slice (some ad252) l0_0.length c0_0, .bool a0_1] 24 (0, 0)) (za BK249.out) hg (Kd.R_ne HO262.out BK249.out (by decide))); have n2_ := aS (q1b (g := gb250) (o := .cells #[.slice none 0 0, .bool false] 24 (0, 0)) (za BK250.out) hg (Kd.R_ne HO262.out BK250.out (by decide))); have n3_ := aS (q1b (g := gb251) (o := .cells #[u252000, .bool a0_1] 24 (0, 0)) (za BK251.out) hg (Kd.R_ne HO262.out BK251.out (by decide))); have n4_ := aS (q1b (g := gb253) (o := .cells #[.int .i64 ((q00 l0_0 x4_1).f0), .string ((q00 l0_0 x4_1).f1), .slice Ao27 y257.length co27, .string ((q00 l0_0 x4_1).f3), .int .i64 ((q00 l0_0 x4_1).f4), .slice A252_5 ((q00 l0_0 x4_1).f5).length c252_5] 43 (0, 0)) (za BK253.out) hg (Kd.R_ne HO262.out BK253.out (by decide))); have n5_ := aS (Kd.R_over' (zf HO259.out) (Kd.R_typed (zf HO262.out)) (by decide) hg); have n6_ := aS (hb); have n7_ := aS (ho); clear HO_252000; clear BK249; clear BK250; clear BK251; clear BK253; clear HO259; clear HB; clear HO262; have HO_252000 := n0_; have BK249 := n1_; have BK250 := n2_; have BK251 := n3_; have BK253 := n4_; have HO259 := n5_; have HB := n6_; have HO265 := n7_; clear n0_ n1_ n2_ n3_ n4_ n5_ n6_ n7_; clear ho hb hg hat; obtain ⟨Ao33, co33, eo33⟩ := Kd.R_slice HO265.out; subst eo33; obtain ⟨hczL_0, hczL_1, hczL_2, hczL_3, hczL_4, hczL_5, hfzL_0, hfzL_1, hfzL_2, hfzL_3, hfzL_4, hfzL_5⟩ := bk6 BK253.out) | ((with_reducible refine gate_store (t := 31) (p := 30) rfl ?_); refine store_event (t := 31) (p := 30) (v := ?vo_w35) (w1 := (w32.setCell ⟨gb253, 5, none⟩ (.slice Ao33 y263.length co33))) ?hg ?ho ?hn ?hr ?_; (case ho => rfl); (case hg => rfl); (case hn => rfl); (case hr => first | (go_simp; done) | (go_simp; rfl)); intro w35 hw; have n0_ : Aside0 (Kd.S k43 43 w35 w.heap.size (fun k_ => some k_ ≠ (.slice Ao27 y257.length co27 : Value).ownBlock ∧ some k_ ≠ (.slice Ao33 y263.length co33 : Value).ownBlock ∧ k_ ≠ gb253) u252000 x252000_1) := ⟨(by rw [hw]; exact (by (with_reducible repeat (first | apply sA | apply sN | apply sD)); exact Kd.S_mono (Kd.S_far (p := ⟨gb253, 5, none⟩) (Kd.S_mono HO_252000.out (fun k_ hk => (⟨hk, hk.1.2⟩ : _ ∧ k_ ≠ gb253))) (fun _ hk => hk.2) (.slice Ao33 y263.length co33)) (fun _ hk => ⟨hk.1.1.1, ⟨hk.1.2, hk.1.1.2⟩⟩)))⟩; have n1_ : Aside0 (Kd.R k122 122 w35 w.heap.size (fun _ => True) (.slice Ao27 y257.length co27) y257) := ⟨(by rw [hw]; exact (by (with_reducible repeat (first | apply rA | apply rN | apply rD)); exact Kd.R_mono (Kd.R_far (p := ⟨gb253, 5, none⟩) (Kd.R_types HO259.out BK253.out (by decide)) (fun _ hk => hk.2) (.slice Ao33 y263.length co33)) (fun _ hk => trivial)))⟩; have n2_ : Aside0 (Kd.R (Kd.int .i64) 3 w35 w.heap.size (fun _ => True) (.slice Ao33 y263.length co33) y263) := ⟨(by rw [hw]; exact (by (with_reducible repeat (first | apply rA | apply rN | apply rD)); exact Kd.R_mono (Kd.R_far (p := ⟨gb253, 5, none⟩) (Kd.R_types HO265.out BK253.out (by decide)) (fun _ hk => hk.2) (.slice Ao33 y263.length co33)) (fun _ hk => trivial)))⟩; have n3_ : Aside0 (w35.heap[gb249]? = some (.cells #[.slice (some ad252) l0_0.length c0_0, .bool a0_1] 24 (0, 0))) := ⟨(by rw [hw]; exact (by (with_reducible repeat (first | refine kN ?_ _ | refine kD ?_ | refine kA ?_ _)); refine q0l ?_ NB249_253.out _; (with_reducible repeat (first | refine kN ?_ _ | refine kD ?_ | refine kA ?_ _)); exact BK249.out))⟩; have n4_ : Aside0 (w35.heap[gb250]? = some (.cells #[.slice none 0 0, .bool false] 24 (0, 0))) := ⟨(by rw [hw]; exact (by (with_reducible repeat (first | refine kN ?_ _ | refine kD ?_ | refine kA ?_ _)); refine q0l ?_ NB250_253.out _; (with_reducible repeat (first | refine kN ?_ _ | refine kD ?_ | refine kA ?_ _)); exact BK250.out))⟩; have n5_ : Aside0 (w35.heap[gb251]? = some (.cells #[u252000, .bool a0_1] 24 (0, 0))) := ⟨(by rw [hw]; exact (by (with_reducible repeat (first | refine kN ?_ _ | refine kD ?_ | refine kA ?_ _)); refine q0l ?_ NB251_253.out _; (with_reducible repeat (first | refine kN ?_ _ | refine kD ?_ | refine kA ?_ _)); exact BK251.out))⟩; have n6_ : Aside0 (w35.heap[gb253]? = some (.cells #[.int .i64 ((q00 l0_0 x4_1).f0), .string ((q00 l0_0 x4_1).f1), .slice Ao27 y257.length co27, .string ((q00 l0_0 x4_1).f3), .int .i64 ((q00 l0_0 x4_1).f4), .slice Ao33 y263.length co33] 43 (0, 0))) := ⟨(by rw [hw]; exact (by (with_reducible repeat (first | refine kN ?_ _ | refine kD ?_ | refine kA ?_ _)); refine q0o (cs := #[.int .i64 ((q00 l0_0 x4_1).f0), .string ((q00 l0_0 x4_1).f1), .slice Ao27 y257.length co27, .string ((q00 l0_0 x4_1).f3), .int .i64 ((q00 l0_0 x4_1).f4), .slice A252_5 ((q00 l0_0 x4_1).f5).length c252_5]) ?_ 5 _ rfl; (with_reducible repeat (first | refine kN ?_ _ | refine kD ?_ | refine kA ?_ _)); exact BK253.out))⟩; have n7_ : Aside0 (Below w.heap.size w w35) := ⟨(by rw [hw]; exact (by repeat (first | (with_reducible first | exact HB.out | apply bA | apply bN | apply bD | refine bS ?_ GE249.out | refine bS ?_ GE250.out | refine bS ?_ GE251.out | refine bS ?_ GE253.out) | exact HB.out)))⟩; clear hw; clear HO_252000; clear HO259; clear HO265; clear BK249; clear BK250; clear BK251; clear BK253; clear HB; have HO_252000 := n0_; have HO259 := n1_; have HO265 := n2_; have BK249 := n3_; have BK250 := n4_; have BK251 := n5_; have BK253 := n6_; have HB := n7_; clear n0_ n1_ n2_ n3_ n4_ n5_ n6_ n7_; have hnb36 := NB251_250.out; have hnc36 := NB250_251.out; obtain ⟨hczL_0, hczL_1, hfzL_0, hfzL_1⟩ := bk2 BK251.out; obtain ⟨hczL_0, hczL_1, hczL_2, hczL_3, hczL_4, hczL_5, hfzL_0, hfzL_1, hfzL_2, hfzL_3, hfzL_4, hfzL_5⟩ := bk6 BK253.out) | ((with_reducible refine q1m (b := .append) (xs := #[.tmp 32, .tmp 34]) rfl ?_); at_builtin; refine Kd.S_append k43 (w0 := w) w.heap.size rfl (.tmp 32) (.tmp 34) 22 43 (.agg #[(.int .i64 0), (.string ⟨#[]⟩), (.slice none 0 0), (.string ⟨#[]⟩), (.int .i64 0), (.slice none 0 0)]) 96 rfl Tryd.underlying22 info43 rfl (by decide) (by omega) u252000 x252000_1 (⟨(q00 l0_0 x4_1).f0, (q00 l0_0 x4_1).f1, y257, (q00 l0_0 x4_1).f3, (q00 l0_0 x4_1).f4, y263⟩ : S43) [.int .i64 ((q00 l0_0 x4_1).f0), .string ((q00 l0_0 x4_1).f1), .slice Ao27 y257.length co27, .string ((q00 l0_0 x4_1).f3), .int .i64 ((q00 l0_0 x4_1).f4), .slice Ao33 y263.length co33] (fun k_ => k_ ≠ gb253) (fun k_ => some k_ = (.slice Ao27 y257.length co27 : Value).ownBlock ∨ some k_ = (.slice Ao33 y263.length co33 : Value).ownBlock) rfl rfl ?aP (fun k_ hk_ => hk_.elim (fun h_ => ((Kd.R_mono (ok' := fun k_ => ((fun k_ => k_ ≠ gb253)) k_ ∧ some k_ ≠ (u252000 : Value).ownBlock) (Kd.R_types (Kd.R_apart' (HO259.out) (Kd.S_typed HO_252000.out) (by decide)) BK253.out (by decide)) (fun k_ hk => ⟨hk.2, hk.1.2⟩))).1 k_ h_.symm) (fun h_ => ((Kd.R_mono (ok' := fun k_ => ((fun k_ => k_ ≠ gb253)) k_ ∧ some k_ ≠ (u252000 : Value).ownBlock) (Kd.R_types (Kd.R_apart' (HO265.out) (Kd.S_typed HO_252000.out) (by decide)) BK253.out (by decide)) (fun k_ hk => ⟨hk.2, hk.1.2⟩))).1 k_ h_.symm)) ?aF ?aO ?aB ?aS ?aL ?_; (case aP => exact q28 _ _ _ (⟨(q00 l0_0 x4_1).f0, (q00 l0_0 x4_1).f1, y257, (q00 l0_0 x4_1).f3, (q00 l0_0 x4_1).f4, y263⟩ : S43) (Kd.R_mono (Kd.R_tight rfl (Kd.R_mono (ok' := fun k_ => ((fun k_ => k_ ≠ gb253)) k_ ∧ some k_ ≠ (u252000 : Value).ownBlock) (Kd.R_types (Kd.R_apart' (HO259.out) (Kd.S_typed HO_252000.out) (by decide)) BK253.out (by decide)) (fun k_ hk => ⟨hk.2, hk.1.2⟩))) (fun _ h_ => Or.inl h_)) (Kd.R_mono (Kd.R_tight rfl (Kd.R_mono (ok' := fun k_ => ((fun k_ => k_ ≠ gb253)) k_ ∧ some k_ ≠ (u252000 : Value).ownBlock) (Kd.R_types (Kd.R_apart' (HO265.out) (Kd.S_typed HO_252000.out) (by decide)) BK253.out (by decide)) (fun k_ hk => ⟨hk.2, hk.1.2⟩))) (fun _ h_ => Or.inr (h_)))); (case aB => exact (by repeat (first | (with_reducible first | exact HB.out | apply bA | apply bN | apply bD | refine bS ?_ GE249.out | refine bS ?_ GE250.out | refine bS ?_ GE251.out | refine bS ?_ GE253.out) | exact HB.out))); (case aF => exact (fun k_ hk => Kd.freshB (g := gb253) (o := .cells #[.int .i64 ((q00 l0_0 x4_1).f0), .string ((q00 l0_0 x4_1).f1), .slice Ao27 y257.length co27, .string ((q00 l0_0 x4_1).f3), .int .i64 ((q00 l0_0 x4_1).f4), .slice Ao33 y263.length co33] 43 (0, 0)) (za BK253.out) k_ hk)); (case aO => exact (by (with_reducible repeat (first | apply sA | apply sN | apply sD)); exact Kd.S_mono HO_252000.out (fun k_ hk => ⟨hk.2.2, fun e_ => e_.elim (fun h_ => hk.1 h_) (fun h_ => hk.2.1 h_)⟩))); (case aS => exact (q0c (by repeat (first | (with_reducible first | exact HB.out | apply bA | apply bN | apply bD | refine bS ?_ GE249.out | refine bS ?_ GE250.out | refine bS ?_ GE251.out | refine bS ?_ GE253.out) | exact HB.out)))); (case aL => have := LMc14.out; omega); intro v267 w39 ho hb hg hat; rw [← Ny266.out] at ho; have n0_ := aS (q1b (g := gb249) (o := .cells #[.slice (some ad252) l0_0.length c0_0, .bool a0_1] 24 (0, 0)) (za BK249.out) hg (Kd.S_ne HO_252000.out BK249.out (by decide))); have n1_ := aS (q1b (g := gb250) (o := .cells #[.slice none 0 0, .bool false] 24 (0, 0)) (za BK250.out) hg (Kd.S_ne HO_252000.out BK250.out (by decide))); have n2_ := aS (q1b (g := gb251) (o := .cells #[u252000, .bool a0_1] 24 (0, 0)) (za BK251.out) hg (Kd.S_ne HO_252000.out BK251.out (by decide))); have n3_ := aS (q1b (g := gb253) (o := .cells #[.int .i64 ((q00 l0_0 x4_1).f0), .string ((q00 l0_0 x4_1).f1), .slice Ao27 y257.length co27, .string ((q00 l0_0 x4_1).f3), .int .i64 ((q00 l0_0 x4_1).f4), .slice Ao33 y263.length co33] 43 (0, 0)) (za BK253.out) hg (Kd.S_away HO_252000.out (fun _ hk => hk.2.2))); have n4_ := aS (hb); have n5_ := aS (ho); clear BK249; clear BK250; clear BK251; clear BK253; clear HB; clear HO_252000; clear HO259; clear HO265; have BK249 := n0_; have BK250 := n1_; have BK251 := n2_; have BK253 := n3_; have HB := n4_; have HO268 := n5_; clear n0_ n1_ n2_ n3_ n4_ n5_; clear ho hb hg hat; obtain ⟨Ao40, co40, eo40⟩ := Kd.S_slice HO268.out; subst eo40; obtain ⟨hczL_0, hczL_1, hfzL_0, hfzL_1⟩ := bk2 BK251.out))
    go_roundg k1
    case measure => have := HK1.out; omega
    case rel => exact ⟨(wrap64 (x4_1 + 1)), (y266), (.slice Ao40 y266.length co40), zi, H', ⟨by have := HK1.out; omega⟩, ⟨by (with_reducible repeat (first | apply sA | apply sN | apply sD)); exact Kd.S_mono (Kd.S_far (p := ⟨gb251, 0, none⟩) (Kd.S_types HO268.out BK251.out (by decide)) (fun _ hk => hk.2) (.slice Ao40 y266.length co40)) (fun _ hk => trivial)⟩, ⟨by (with_reducible repeat (first | refine kN ?_ _ | refine kD ?_ | refine kA ?_ _)); refine q0l ?_ NB249_251.out _; (with_reducible repeat (first | refine kN ?_ _ | refine kD ?_ | refine kA ?_ _)); exact BK249.out⟩, ⟨by (with_reducible repeat (first | refine kN ?_ _ | refine kD ?_ | refine kA ?_ _)); refine q0l ?_ NB250_251.out _; (with_reducible repeat (first | refine kN ?_ _ | refine kD ?_ | refine kA ?_ _)); exact BK250.out⟩, ⟨by (with_reducible repeat (first | refine kN ?_ _ | refine kD ?_ | refine kA ?_ _)); refine q0o (cs := #[u252000, .bool a0_1]) ?_ 0 _ rfl; (with_reducible repeat (first | refine kN ?_ _ | refine kD ?_ | refine kA ?_ _)); exact BK251.out⟩, ⟨by repeat (first | (with_reducible first | exact HB.out | apply bA | apply bN | apply bD | refine bS ?_ GE249.out | refine bS ?_ GE250.out | refine bS ?_ GE251.out | refine bS ?_ GE253.out) | exact HB.out)⟩⟩
   case n10 =>
    simp only [Option.some.injEq, Prod.mk.injEq] at H
    obtain ⟨rfl, rfl⟩ := H
    have hnb42 := NB249_250.out
    have hnc42 := NB250_249.out
    have hnb43 := NB249_251.out
    have hnc43 := NB251_249.out
    obtain ⟨hczL_0, hczL_1, hfzL_0, hfzL_1⟩ := bk2 BK249.out
    have hnb45 := NB251_250.out
    have hnc45 := NB250_251.out
    obtain ⟨hczL_0, hczL_1, hfzL_0, hfzL_1⟩ := bk2 BK251.out
    obtain ⟨Ao47, co47, eo47⟩ := Kd.S_slice HO_252000.out
    subst eo47
    obtain ⟨hczL_0, hczL_1, hfzL_0, hfzL_1⟩ := bk2 BK250.out
    go_wp2
    refine bodyPost_ret (results_cell_row rfl _ _ gb250 24 #[.slice Ao47 x252000_1.length co47, .bool a0_1] (0, 0) _ rfl (by (with_reducible repeat (first | refine kN ?_ _ | refine kD ?_ | refine kA ?_ _)); refine q0o (cs := #[.slice Ao47 x252000_1.length co47, .bool false]) ?_ 1 _ rfl; (with_reducible repeat (first | refine kN ?_ _ | refine kD ?_ | refine kA ?_ _)); refine q0o (cs := #[.slice none 0 0, .bool false]) ?_ 0 _ rfl; (with_reducible repeat (first | refine kN ?_ _ | refine kD ?_ | refine kA ?_ _)); exact BK250.out) Tryd.underlying24 rfl (by kernel_rfl)) rfl ?_
    exact ⟨_, by first | rfl | (simp [q05, q04] <;> rfl) | (simp [*, q05, q04] <;> rfl), by (with_reducible repeat (first | apply sA | apply sN | apply sD)); exact Kd.S_mono (Kd.S_far (p := ⟨gb250, 1, none⟩) (Kd.S_far (p := ⟨gb250, 0, none⟩) (Kd.S_types HO_252000.out BK250.out (by decide)) (fun _ hk => hk.2) (.slice Ao47 x252000_1.length co47)) (fun _ hk => hk.2) (.bool a0_1)) (fun _ hk => trivial), by repeat (first | (with_reducible first | exact HB.out | apply bA | apply bN | apply bD | refine bS ?_ GE249.out | refine bS ?_ GE250.out | refine bS ?_ GE251.out) | exact HB.out)⟩
end Go.Proofs.YthjnallbbhnndaaDoor.XDe
namespace Go.Proofs.YthjnallbbhnndaaDoor.XDe
open Go.Proofs.YthjnallbbhnndaaDoor.Short Go.RowKit Go.Proofs.YthjnallbbhnndaaDoorW.PrintWords Go.Proofs.YthjnallbbhnndaaDoorW.PrintLast Go.Proofs.YthjnallbbhnndaaDoorW.PrintMore
attribute [local go_sem] q16 q14 q1g q1f q0s q0r q15 q13   -- for this text's walks alone
set_option linter.unusedVariables false
set_option linter.unusedSimpArgs false
def clerestoryref1_without.f (l0 : List Int) (a1 : Int) : Option (List Int) := (some (([] : List Int) : List Int)).bind fun y269 => (if 0 ≤ a1 then (if a1 ≤ (l0.length : Int) then (if y269.length + (l0.take (a1 : Int).toNat).length < 17592186044416 then ((some (y269 ++ (l0.take (a1 : Int).toNat) : List Int)).bind fun y273 => (if 0 ≤ (wrap64 (a1 + 1)) then (if (wrap64 (a1 + 1)) ≤ (l0.length : Int) then (if y273.length + (l0.drop ((wrap64 (a1 + 1)) : Int).toNat).length < 17592186044416 then (some (y273 ++ (l0.drop ((wrap64 (a1 + 1)) : Int).toNat))) else (none)) else (none)) else (none))) else (none)) else (none)) else (none))
def clerestoryref1_without.T1 : Bool × List (List Nat × List Nat) := (true, [([], []), ([], []), ([], []), ([1, 2], [1, 2]), ([0, 3], [0, 3]), ([], []), ([], []), ([6], [6]), ([5, 7], [5, 7]), ([4, 8, 4], [4, 8]), ([9, 9, 0, 1, 2, 3, 4, 5, 6, 7, 8, 9], [9])])
def clerestoryref1_without.B1 : List Nat := [0, 0, 0, 6, 15, 0, 0, 64, 224, 511, 1023]
theorem clerestoryref1_without.tab1 : rtab .any (opsOf Tryd.f108 1) = clerestoryref1_without.T1 := by kernel_rfl
theorem clerestoryref1_without.bits1 : waitsOk clerestoryref1_without.T1.2 clerestoryref1_without.B1 = true := by kernel_rfl
set_option maxHeartbeats 8000000 in
set_option maxRecDepth 100000 in
theorem clerestoryref1_without.calls (A0 : Option Addr) (c0 : Nat) (l0 : List Int) (a1 : Int) (r : List Int) (w : World) (hr0 : Kd.C (Kd.int .i64) w A0 l0.length l0) (hc0 : l0.length ≤ c0) (h : clerestoryref1_without.f l0 a1 = some r) :
 Calls Tryd.prog 108 #[.slice A0 l0.length c0, .int .i64 a1] w fun e w' => ∃ v0_ : Value, e = .returned (v0_) ∧ Kd.R (Kd.int .i64) 3 w' w.heap.size (fun _ => True) v0_ r ∧ Below w.heap.size w w' := by
 have HR0 := aS hr0
 have HC0 := aS hc0
 clear hr0 hc0
 have HB := aS (Below.refl w.heap.size w)
 have H := h; clear h; unfold clerestoryref1_without.f at H
 obtain ⟨y269, hy269⟩ : ∃ y_ : List Int, y_ = (([] : List Int)) := ⟨_, rfl⟩
 replace H : (if 0 ≤ a1 then (if a1 ≤ (l0.length : Int) then (if y269.length + (l0.take (a1 : Int).toNat).length < 17592186044416 then ((some (y269 ++ (l0.take (a1 : Int).toNat) : List Int)).bind fun y273 => (if 0 ≤ (wrap64 (a1 + 1)) then (if (wrap64 (a1 + 1)) ≤ (l0.length : Int) then (if y273.length + (l0.drop ((wrap64 (a1 + 1)) : Int).toNat).length < 17592186044416 then (some (y273 ++ (l0.drop ((wrap64 (a1 + 1)) : Int).toNat))) else (none)) else (none)) else (none))) else (none)) else (none)) else (none)) = some r := by first | (rw [hy269]; with_reducible exact H) | (have H2_ := (Option.bind_some _ _).symm.trans H; rw [hy269]; with_reducible exact H2_) | (have H2_ := (Option.bind_some _ _).symm.trans H; with_reducible exact H2_) | with_reducible exact H | (rw [hy269]; exact H) | exact H
 have Ny269 := aS hy269
 clear hy269
 refine iGp H ?_; clear H; intro c3 H
 have c3b0 := eq_true c3
 have c3b1 : decide (0 ≤ a1) = true := decide_eq_true c3
 clear c3
 refine iGp H ?_; clear H; intro c4 H
 have c4b0 := eq_true c4
 have c4b1 : decide (a1 ≤ (l0.length : Int)) = true := decide_eq_true c4
 clear c4
 refine iGp H ?_; clear H; intro c5 H
 have LMc5 := aS c5
 clear c5
 obtain ⟨y273, hy273⟩ : ∃ y_ : List Int, y_ = (y269 ++ (l0.take (a1 : Int).toNat)) := ⟨_, rfl⟩
 replace H : (if 0 ≤ (wrap64 (a1 + 1)) then (if (wrap64 (a1 + 1)) ≤ (l0.length : Int) then (if y273.length + (l0.drop ((wrap64 (a1 + 1)) : Int).toNat).length < 17592186044416 then (some (y273 ++ (l0.drop ((wrap64 (a1 + 1)) : Int).toNat))) else (none)) else (none)) else (none)) = some r := by first | (rw [hy273]; with_reducible exact H) | (have H2_ := (Option.bind_some _ _).symm.trans H; rw [hy273]; with_reducible exact H2_) | (have H2_ := (Option.bind_some _ _).symm.trans H; with_reducible exact H2_) | with_reducible exact H | (rw [hy273]; exact H) | exact H
 have Ny273 := aS hy273
 clear hy273
 obtain ⟨ji6, hji6⟩ : ∃ j_ : Int, (wrap64 (a1 + 1)) = j_ := ⟨_, rfl⟩
 replace H : (if 0 ≤ (ji6) then (if (ji6) ≤ (l0.length : Int) then (if y273.length + (l0.drop ((ji6) : Int).toNat).length < 17592186044416 then (some (y273 ++ (l0.drop ((ji6) : Int).toNat))) else (none)) else (none)) else (none)) = some r := by first | (rw [hji6] at H; exact H) | (simp only [hji6] at H ⊢; exact H)
 have hji6w : (IntKind.i64.wrap (a1 + 1)) = ji6 := (q0d _).trans hji6
 refine iGp H ?_; clear H; intro c7 H
 have c7b0 := eq_true c7
 have c7b1 : decide (0 ≤ (ji6)) = true := decide_eq_true c7
 clear c7
 refine iGp H ?_; clear H; intro c8 H
 have c8b0 := eq_true c8
 have c8b1 : decide ((ji6) ≤ (l0.length : Int)) = true := decide_eq_true c8
 clear c8
 refine iGp H ?_; clear H; intro c9 H
 have LMc9 := aS c9
 clear c9
 obtain ⟨y277, hy277⟩ : ∃ y_ : List Int, y_ = (y273 ++ (l0.drop ((ji6) : Int).toNat)) := ⟨_, rfl⟩
 replace H : (some y277) = some r := by first | (rw [hy277]; with_reducible exact H) | (have H2_ := (Option.bind_some _ _).symm.trans H; rw [hy277]; with_reducible exact H2_) | (have H2_ := (Option.bind_some _ _).symm.trans H; with_reducible exact H2_) | with_reducible exact H | (rw [hy277]; exact H) | exact H
 have Ny277 := aS hy277
 clear hy277
 obtain rfl := Option.some.inj H
 go_enter Tryd.func108, Tryd.ntmps108
 try go_wp2
 have n0_ := aS (below_drew1 HB.out)
 clear HB
 have HB := n0_
 clear n0_
 obtain ⟨i011, hi011, _, hsz11, _⟩ := info_parts info3
 obtain ⟨hcut11, hA11, hC11⟩ := print_take_of (P := Tryd.prog) (Value.int .i64) 0 31 3 .i64 Tryd.underlying31 hi011 hsz11 A0 c0 l0 a1 (od zb) (od zb) HC0.out
 have HR272 := aS (Kd.C_of_reads (h1 := fun _ => rfl) (hA11 _ (Kd.reads_of_C HR0.out)))
 have HC272 := aS hC11
 clear hA11 hC11 hi011 hsz11
 have HSL272 := aS (show (l0.take (a1 : Int).toNat).length = a1.toNat from (by rw [List.length_take]; have h_ : (a1 : Int) ≤ (l0.length : Int) := od zb; omega))
 obtain ⟨i012, hi012, _, hsz12, _⟩ := info_parts info3
 obtain ⟨A12, hcut12, hA12, hC12⟩ := print_drop_of (P := Tryd.prog) (Value.int .i64) 0 31 3 .i64 Tryd.underlying31 hi012 hsz12 A0 c0 l0 (ji6) (od zb) (od zb) HC0.out
 have HR276 := aS (Kd.C_of_reads (h1 := fun _ => rfl) (hA12 _ (Kd.reads_of_C HR0.out)))
 have HC276 := aS hC12
 clear hA12 hC12 hi012 hsz12
 refine start_ (n := 11) (S := fun w' => True) (ds := []) #[false, false, false, false, false, false, false, false, false, false, false] (by kernel_rfl) rfl rfl trivial (fun hHeld => ?_); refine with_tabW clerestoryref1_without.tab1 clerestoryref1_without.bits1 (fun HT_ HW_ => ?_)
 generalize w.drew = w10 at HB HR272 HR276 hHeld ⊢
 refine q0n (i := 1) (N := some 6) (v := ?_) (a' := ?_) #[false, true, false, false, false, false, false, false, false, false, false] rfl rfl (q24 HT_.out (by kernel_rfl)) (fun _ _ _ h => h) (Or.inl ⟨by rfl, ?_⟩) ?_ ?_
 rotate_left
 ·intro w'
  go_simp
  with_reducible rfl
 rotate_left
 ·simp only [Act.put, s1, s2, s3, q0d, q0e]
  rfl
 refine q0n (i := 2) (N := some 7) (v := ?_) (a' := ?_) #[false, true, true, false, false, false, false, false, false, false, false] rfl rfl (q24 HT_.out (by kernel_rfl)) (fun _ _ _ h => h) (Or.inl ⟨by rfl, ?_⟩) ?_ ?_
 rotate_left
 ·intro w'
  go_simp
  with_reducible rfl
 rotate_left
 ·simp only [Act.put, s1, s2, s3, q0d, q0e]
  rfl
 refine q0n (i := 3) (N := some 8) (v := ?_) (a' := ?_) #[false, true, true, true, false, false, false, false, false, false, false] rfl rfl (q24 HT_.out (by kernel_rfl)) (fun _ _ _ h => h) (Or.inl ⟨by rfl, ?_⟩) ?_ ?_
 rotate_left
 ·intro w'
  go_simp
  with_reducible rfl
 rotate_left
 ·simp only [Act.put, s1, s2, s3, q0d, q0e]
  rfl
 refine q0n (i := 5) (N := some 10) (v := ?_) (a' := ?_) #[false, true, true, true, false, true, false, false, false, false, false] rfl rfl (q24 HT_.out (by kernel_rfl)) (fun _ _ _ h => h) (Or.inl ⟨by rfl, ?_⟩) ?_ ?_
 rotate_left
 ·intro w'
  go_simp
  with_reducible rfl
 rotate_left
 ·simp only [Act.put, s1, s2, s3, q0d, q0e]
  rfl
 refine q0n (i := 6) (N := some 11) (v := ?_) (a' := ?_) #[false, true, true, true, false, true, true, false, false, false, false] rfl rfl (q24 HT_.out (by kernel_rfl)) (fun _ _ _ h => h) (Or.inl ⟨by rfl, ?_⟩) ?_ ?_
 rotate_left
 ·intro w'
  go_simp
  with_reducible rfl
 rotate_left
 ·simp only [Act.put, s1, s2, s3, q0d, q0e]
  rfl
 refine q0n (i := 7) (N := some 12) (v := ?_) (a' := ?_) #[false, true, true, true, false, true, true, true, false, false, false] rfl rfl (q24 HT_.out (by kernel_rfl)) (fun _ _ _ h => h) (Or.inl ⟨by rfl, ?_⟩) ?_ ?_
 rotate_left
 ·intro w'
  go_simp
  with_reducible rfl
 rotate_left
 ·simp only [Act.put, s1, s2, s3, q0d, q0e]
  rfl
 refine q0n (i := 8) (N := some 13) (v := ?_) (a' := ?_) #[false, true, true, true, false, true, true, true, true, false, false] rfl rfl (q24 HT_.out (by kernel_rfl)) (fun _ _ _ h => h) (Or.inl ⟨by rfl, ?_⟩) ?_ ?_
 rotate_left
 ·intro w'
  go_simp
  with_reducible rfl
 rotate_left
 ·simp only [Act.put, s1, s2, s3, q0d, q0e]
  rfl
 refine one_ (i := 0) (N := some 5) #[true, true, true, true, false, true, true, true, true, false, false] rfl rfl (one_of HT_.out (by kernel_rfl)) (by decide) (fun K hK => ?_)
 refine Kd.R_lit_step (Kd.int .i64) _ 3 ?hg (N := 5) ?hd (xs := ([] : List Int)) (inner := []) (ok := fun _ => True) (okp := fun _ => True) ?hr ?hp (fun _ hk => hk) trivial (Below.refl _ _) (Nat.le_refl _) (by simp) ?_; (case hd => rfl); (case hg => rfl); (case hr => first | (go_simp; done) | (go_simp; rfl)); (case hp => exact (Reps.none _ _))
 intro v270 w13 ho14 hb hg_ hnew_
 clear hg_ hnew_
 (first | rw [← Ny269.out] at ho14 | (simp only [Int.reduceToNat] at ho14; rw [← Ny269.out] at ho14))
 have n0_ := aS (Kd.R_lower ho14 (q0c (z7 HB.out)))
 have n1_ := aS (q01 (z7 HB.out) hb)
 clear HB
 have HO271 := n0_
 have HB := n1_
 clear n0_ n1_
 clear hb ho14
 refine hK.out _ _ trivial (fun hHeld => ?_)
 clear hK K
 refine q1n (a' := ?_) ?_ ?_
 rotate_left
 ·show Act.put _ (some 5) _ = _
  simp only [Act.put, s1, s2, s3, q0d, q0e]
  rfl
 refine one_ (i := 4) (N := some 9) #[true, true, true, true, true, true, true, true, true, false, false] rfl rfl (one_of HT_.out (by kernel_rfl)) (by decide) (fun K hK => ?_)
 refine Kd.R_append_rows_step (Kd.int .i64) (w0 := w) w.heap.size (by rfl) (.tmp 5) (.tmp 8) 31 3 (.int .i64 0) 8 rfl Tryd.underlying31 info3 rfl (by decide) (by omega) v270 y269 (l0.take (a1 : Int).toNat) _ _ _ (fun _ => True) (fun _ => False) rfl rfl ?aO ?aR (fun _ _ h => h) (fun _ h => h.elim) ?aF ?aB ?aS ?aL ?_
 (case aR => first | (have h_ := Kd.C_below HR272.out HB.out; rw [HSL272.out] at h_; exact h_) | (rw [← show (l0.take (a1 : Int).toNat).length = a1.toNat from HSL272.out]; repeat (first | exact (Kd.C_below HR272.out HB.out) | (with_reducible refine cA ?_ _) | (with_reducible refine cN ?_ _) | (with_reducible refine cD ?_))) | (repeat (first | exact (Kd.C_below HR272.out HB.out) | (with_reducible refine cA ?_ _) | (with_reducible refine cN ?_ _) | (with_reducible refine cD ?_))))
 (case aB => exact (z7 HB.out))
 (case aF => exact (fun _ _ => trivial))
 (case aO => exact (zf HO271.out))
 (case aS => exact (q0c (z7 HB.out)))
 (case aL => have := LMc5.out; have hlx_ := (show (l0.take (a1 : Int).toNat).length = a1.toNat from HSL272.out); omega)
 intro v274 w15 ho hb hg hat
 rw [← Ny273.out] at ho
 have n0_ := aS (hb)
 have n1_ := aS (ho)
 clear HB
 clear HO271
 have HB := n0_
 have HO275 := n1_
 clear n0_ n1_
 clear ho hb hg hat
 refine hK.out _ _ trivial (fun hHeld => ?_)
 clear hK K
 refine q1n (a' := ?_) ?_ ?_
 rotate_left
 ·show Act.put _ (some 9) _ = _
  simp only [Act.put, s1, s2, s3, q0d, q0e]
  rfl
 refine one_ (i := 9) (N := some 14) #[true, true, true, true, true, true, true, true, true, true, false] rfl rfl (one_of HT_.out (by kernel_rfl)) (by decide) (fun K hK => ?_)
 refine Kd.R_append_rows_step (Kd.int .i64) (w0 := w) w.heap.size (by rfl) (.tmp 9) (.tmp 13) 31 3 (.int .i64 0) 8 rfl Tryd.underlying31 info3 rfl (by decide) (by omega) v274 y273 (l0.drop ((ji6) : Int).toNat) _ _ _ (fun _ => True) (fun _ => False) rfl rfl ?aO ?aR (fun _ _ h => h) (fun _ h => h.elim) ?aF ?aB ?aS ?aL ?_
 (case aR => first | (rw [← show (l0.drop ((ji6) : Int).toNat).length = (l0.length - (ji6).toNat) from List.length_drop]; repeat (first | exact (Kd.C_below HR276.out HB.out) | (with_reducible refine cA ?_ _) | (with_reducible refine cN ?_ _) | (with_reducible refine cD ?_))) | (repeat (first | exact (Kd.C_below HR276.out HB.out) | (with_reducible refine cA ?_ _) | (with_reducible refine cN ?_ _) | (with_reducible refine cD ?_))))
 (case aB => exact (z7 HB.out))
 (case aF => exact (fun _ _ => trivial))
 (case aO => exact (zf HO275.out))
 (case aS => exact (q0c (z7 HB.out)))
 (case aL => have := LMc9.out; have hlx_ := (show (l0.drop ((ji6) : Int).toNat).length = (l0.length - (ji6).toNat) from List.length_drop); omega)
 intro v278 w16 ho hb hg hat
 rw [← Ny277.out] at ho
 have n0_ := aS (hb)
 have n1_ := aS (ho)
 clear HB
 clear HO275
 have HB := n0_
 have HO279 := n1_
 clear n0_ n1_
 clear ho hb hg hat
 refine hK.out _ _ trivial (fun hHeld => ?_)
 clear hK K
 refine q1n (a' := ?_) ?_ ?_
 rotate_left
 ·show Act.put _ (some 14) _ = _
  simp only [Act.put, s1, s2, s3, q0d, q0e]
  rfl
 refine q0n (i := 10) (N := some 4) (v := ?_) (a' := ?_) #[true, true, true, true, true, true, true, true, true, true, true] rfl rfl (q24 HT_.out (by kernel_rfl)) (fun _ _ _ h => h) (Or.inl ⟨by rfl, ?_⟩) ?_ ?_
 rotate_left
 ·intro w'
  go_simp
  with_reducible rfl
 rotate_left
 ·simp only [Act.put, s1, s2, s3, q0d, q0e]
  rfl
 refine done_ (done_of HT_.out (by kernel_rfl)) ?_
 try go_wp2
 go_ret
 exact ⟨_, by first | rfl | (simp [q05, q04] <;> rfl) | (simp only [← hji6]; first | rfl | (simp [q05, q04] <;> rfl)) | (simp [*, q05, q04] <;> rfl), by (with_reducible repeat (first | apply rA | apply rN | apply rD)); exact HO279.out, by repeat (first | (with_reducible first | exact HB.out | apply bA | apply bN | apply bD) | exact HB.out)⟩
end Go.Proofs.YthjnallbbhnndaaDoor.XDe
