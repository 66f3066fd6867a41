/- Written by this session's program (wip/xp) out of the translation as Lean prints it: for each Go function a Lean function and the proof that the code answers just so, on the conditions named in each statement. -/
import Derived.Test.YthjnallbbhnndaaDoorG2
namespace Go.Proofs.YthjnallbbhnndaaDoor.XDb
open Go.Proofs.YthjnallbbhnndaaDoor.Short Go.RowKit Go.Proofs.YthjnallbbhnndaaDoorW.PrintWords Go.Proofs.YthjnallbbhnndaaDoorW.PrintLast Go.Proofs.YthjnallbbhnndaaDoorW.PrintMore
attribute [local go_sem] q14 q12 q1b q1a q0u q0t q13 q11   -- for this text's walks alone
set_option linter.unusedVariables false
set_option linter.unusedSimpArgs false
attribute [local go_sem high] eqA122
theorem at_T43_kept {w W1 : World} {S : Nat → Prop} {A : Option Addr} {n : Nat} {xs : List S43} (h : ∀ W', Kept w W' S → Kd.C k43 W' A n xs) (hk1 : Kept w W1 S) (i : Int) (h0 : 0 ≤ i) (h1 : i < n) : ∃ ad A2 c2 A5 c5, A = some ad ∧ W1.cell? (ad.add (i.toNat * 6)) = some (.int .i64 (q01 xs i).f0) ∧ W1.cell? ⟨(ad.add (i.toNat * 6)).block, (ad.add (i.toNat * 6)).off + 1, none⟩ = some (.string (q01 xs i).f1) ∧ W1.cell? ⟨(ad.add (i.toNat * 6)).block, (ad.add (i.toNat * 6)).off + 2, none⟩ = some (.slice A2 (q01 xs i).f2.length c2) ∧ W1.cell? ⟨(ad.add (i.toNat * 6)).block, (ad.add (i.toNat * 6)).off + 3, none⟩ = some (.string (q01 xs i).f3) ∧ W1.cell? ⟨(ad.add (i.toNat * 6)).block, (ad.add (i.toNat * 6)).off + 4, none⟩ = some (.int .i64 (q01 xs i).f4) ∧ W1.cell? ⟨(ad.add (i.toNat * 6)).block, (ad.add (i.toNat * 6)).off + 5, none⟩ = some (.slice A5 (q01 xs i).f5.length c5) ∧ (q01 xs i).f2.length ≤ c2 ∧ (∀ W', Kept w W' S → k122.C W' A2 (q01 xs i).f2.length (q01 xs i).f2) ∧ (q01 xs i).f5.length ≤ c5 ∧ (∀ W', Kept w W' S → (Kd.int .i64).C W' A5 (q01 xs i).f5.length (q01 xs i).f5) := by
 obtain ⟨ad, A2, c2, A5, c5, e, x0, x1, x2, x3, x4, x5, l2, _, l5, _⟩ := at_T43 (h W1 hk1) i h0 h1
 subst e
 have hn := Kd.foot_neS h (by omega) (by decide)
 have hlt := Kd.foot_ltS h (by omega) (by decide)
 have same : ∀ (W' : World), Kept w W' S → ∀ (a : Addr) (v : Value), a.block = ad.block → W1.cell? a = some v → W'.cell? a = some v := by
  intro W' hk a v ha hv
  unfold World.cell? at hv ⊢
  rw [ha] at hv ⊢
  rw [hk.2 _ hlt hn, ← hk1.2 _ hlt hn]
  exact hv
 refine ⟨ad, A2, c2, A5, c5, rfl, x0, x1, x2, x3, x4, x5, l2, fun W' hk => ?_, l5, fun W' hk => ?_⟩
 ·obtain ⟨ad', A2', c2', A5', c5', e, _, _, y2, _, _, _, _, g2, _, _⟩ := at_T43 (h W' hk) i h0 h1
  injection e with e
  subst e
  rw [same W' hk ⟨(ad.add (i.toNat * 6)).block, (ad.add (i.toNat * 6)).off + 2, none⟩ _ (q0m _ _) x2] at y2
  injection y2 with y2
  injection y2 with y2
  rw [y2]
  exact g2
 ·obtain ⟨ad', A2', c2', A5', c5', e, _, _, _, _, _, y5, _, _, _, g5⟩ := at_T43 (h W' hk) i h0 h1
  injection e with e
  subst e
  rw [same W' hk ⟨(ad.add (i.toNat * 6)).block, (ad.add (i.toNat * 6)).off + 5, none⟩ _ (q0m _ _) x5] at y5
  injection y5 with y5
  injection y5 with y5
  rw [y5]
  exact g5
mutual
def dom_walk.l0 : Nat → List Int → List Int → Int → Int → List (S43) → Bool → Option (List Int)
 | 0, _, _, _, _, _, _ => none
 | k + 1, x2, x18, x19, x20, x197000, x197001 => if x20 < x19 then (if 0 ≤ x20 then (if x20 < (x18.length : Int) then ((dom_walk.f k x197000 x197001 (rd x18 x20) x2).bind fun t202 => (dom_walk.l0 k t202 x18 x19 (wrap64 (x20 + 1)) x197000 x197001)) else (none)) else (none)) else (some x2)
def dom_walk.f : Nat → List (S43) → Bool → Int → List Int → Option (List Int)
 | 0, _, _, _, _ => none
 | k + 1, l0_0, a0_1, a1, l2 => if l2.length < 17592186044416 then (if 0 ≤ a1 then (if a1 < (l0_0.length : Int) then (dom_walk.l0 k (l2 ++ [a1]) ((q01 l0_0 a1).f5) (((q01 l0_0 a1).f5).length : Int) 0 l0_0 a0_1) else (none)) else (none)) else (none)
end
theorem dom_walk.mono_l : ∀ k, (∀ y0 y1 y2 y3, LeO (dom_walk.f k y0 y1 y2 y3) (dom_walk.f (k + 1) y0 y1 y2 y3)) ∧ (∀ y0 y1 y2 y3 y4 y5, LeO (dom_walk.l0 k y0 y1 y2 y3 y4 y5) (dom_walk.l0 (k + 1) y0 y1 y2 y3 y4 y5))
 | 0 => ⟨fun _ _ _ _ r h => by simp [dom_walk.f] at h, fun _ _ _ _ _ _ r h => by simp [dom_walk.l0] at h⟩
 | k + 1 => by
  obtain ⟨ih0, ih1⟩ := dom_walk.mono_l k
  refine ⟨?_, ?_⟩
  all_goals intros
  all_goals (first | unfold dom_walk.f | unfold dom_walk.l0)
  all_goals (repeat' first | with_reducible first | apply ih0 | apply ih1 | exact LeO.refl _ | exact LeO.none _ | refine LeO.ite ?_ ?_ | refine LeO.bind ?_ (fun _ => ?_) | (first | apply ih0 | apply ih1 | exact LeO.none _ | refine LeO.ite ?_ ?_ | refine LeO.bind ?_ (fun _ => ?_)))
theorem dom_walk.mono : ∀ a0 a1 a2 a3 k, LeO (dom_walk.f k a0 a1 a2 a3) (dom_walk.f (k + 1) a0 a1 a2 a3) := by
 intro a0 a1 a2 a3 k
 obtain ⟨ih0, ih1⟩ := dom_walk.mono_l k
 exact ih0 a0 a1 a2 a3
set_option maxHeartbeats 8000000 in
set_option maxRecDepth 100000 in
theorem dom_walk.calls (k : Nat) : ∀ (A0_0 : Option Addr) (c0_0 : Nat) (l0_0 : List (S43)) (a0_1 : Bool) (a1 : Int) (P2_ : Nat → Prop) (u9000_ : Value) (l2 : List Int) (r : List Int) (w0 w : World) (hB : Below w0.heap.size w0 w) (hr0_0 : ∀ W_, Kept w W_ (fun k_ => P2_ k_) → Kd.C k43 W_ A0_0 l0_0.length l0_0) (hc0_0 : l0_0.length ≤ c0_0) (ho2 : Kd.R (Kd.int .i64) 3 w w0.heap.size P2_ u9000_ l2) (h : dom_walk.f k l0_0 a0_1 a1 l2 = some r),
 Calls Tryd.prog 109 #[.agg #[.slice A0_0 l0_0.length c0_0, .bool a0_1], .int .i64 a1, u9000_] w fun e w' => ∃ v0_ : Value, e = .returned (v0_) ∧ Kd.R (Kd.int .i64) 3 w' w0.heap.size (fun k_ => (P2_ k_ ∨ w.heap.size ≤ k_)) v0_ r ∧ Below w0.heap.size w0 w' ∧ Kept w w' (fun k_ => P2_ k_) := by
 induction k using Nat.strongRecOn with
 | _ k ih =>
 intro A0_0 c0_0 l0_0 a0_1 a1 P2_ u9000_ l2 r w0 w hB hr0_0 hc0_0 ho2 h
 cases k with
 | zero => exact absurd h (by simp [dom_walk.f])
 | succ k =>
 simp only [dom_walk.f] at h
 have hu24 := Tryd.underlying24
 have HR0_0 := aS hr0_0
 have HC0_0 := aS hc0_0
 clear hr0_0 hc0_0
 have HO2 := aS (show Kd.R (Kd.int .i64) 3 w w0.heap.size (fun k_ => (P2_ k_ ∨ w.heap.size ≤ k_)) u9000_ l2 from Kd.R_mono ho2 (fun k_ hk => (.inl hk)))
 have HK := aS (Kept.refl w (fun k_ => P2_ k_))
 have HW0 := aS hB.size
 have HB := aS hB
 clear hB
 have H := h; clear h; unfold dom_walk.f at H
 refine iGp H ?_; clear H; intro c4 H
 have LMc4 := aS c4
 clear c4
 obtain ⟨y197, hy197⟩ : ∃ y_ : List Int, y_ = (l2 ++ [a1]) := ⟨_, rfl⟩
 replace H : (if 0 ≤ a1 then (if a1 < (l0_0.length : Int) then (dom_walk.l0 k y197 ((q01 l0_0 a1).f5) (((q01 l0_0 a1).f5).length : Int) 0 l0_0 a0_1) else (none)) else (none)) = some r := by first | (rw [hy197]; with_reducible exact H) | (have H2_ := (Option.bind_some _ _).symm.trans H; rw [hy197]; with_reducible exact H2_) | (have H2_ := (Option.bind_some _ _).symm.trans H; with_reducible exact H2_) | with_reducible exact H | (rw [hy197]; exact H) | exact H
 have Ny197 := aS hy197
 clear hy197
 refine iLp H ?_; clear H; intro c5b0 H
 refine iTp H ?_; clear H; intro c6b0 H
 have H' := aS H
 clear H
 go_enter Tryd.func109, Tryd.ntmps109
 go_wp2_with (first | ((with_reducible refine q05 (N := 3) rfl ?_); refine q0p ?hg (N := 3) ?hd (cs := #[.slice A0_0 l0_0.length c0_0, .bool a0_1]) (t := 24) ?hr ?_; (case hd => rfl); (case hg => rfl); (case hr => first | (go_simp; done) | (go_simp; rfl)); intro gb196 hg w7 hbox hb; have n0_ := aS (Kd.R_below (zf HO2.out) hb); have n1_ := aS (Kept.below (S := (fun k_ => P2_ k_)) (by repeat (first | (with_reducible first | exact HK.out | apply Kept.alloc | apply Kept.drewN | apply Kept.drew) | exact HK.out)) hb); have n2_ := aS (q00 (z7 HB.out) hb); have n3_ := aS (hbox); have n4_ := aS ((by rw [hg]; exact (by first | exact HK.out.1 | exact (show Kept w _ (fun k_ => P2_ k_) from by repeat (first | (with_reducible first | exact HK.out | apply Kept.alloc | apply Kept.drewN | apply Kept.drew) | exact HK.out)).1) : w.heap.size ≤ gb196)); have n5_ := aS ((by rw [hg]; exact (q06 (z7 HB.out)) : w0.heap.size ≤ gb196)); clear HO2; clear HK; clear HB; have HO2 := n0_; have HK := n1_; have HB := n2_; have BK196 := n3_; have GW196 := n4_; have GE196 := n5_; clear n0_ n1_ n2_ n3_ n4_ n5_; clear hb hbox hg) | ((with_reducible refine gate_builtin (b := .append) (xs := #[.tmp 9, .tmp 11]) rfl ?_); at_builtin; refine Kd.R_append (Kd.int .i64) (w0 := w0) w0.heap.size rfl (.tmp 9) (.tmp 11) 31 3 (.int .i64 0) 8 rfl Tryd.underlying31 info3 rfl (by decide) (by omega) u9000_ l2 a1 [.int .i64 a1] (fun k_ => (P2_ k_ ∨ w.heap.size ≤ k_)) (fun _ => False) rfl rfl ?aP (fun _ hk => hk.elim) ?aF ?aO ?aB ?aS ?aL ?_; (case aP => exact rfl); (case aB => exact (z6 HB.out GE196.out)); (case aF => exact (fun k_ hk => (.inr (Nat.le_trans (by first | exact HK.out.1 | exact (show Kept w _ (fun k_ => P2_ k_) from by repeat (first | (with_reducible first | exact HK.out | apply Kept.alloc | apply Kept.drewN | apply Kept.drew | refine Kept.setCell ?_ (.inr GW196.out) _) | exact HK.out)).1) hk)))); (case aO => exact (zf HO2.out)); (case aS => exact (q06 (z6 HB.out GE196.out))); (case aL => have := LMc4.out; omega); intro v198 w8 ho hb hg hat; rw [← Ny197.out] at ho; have n0_ := aS (blk_grown (g := gb196) (o := .cells #[.slice A0_0 l0_0.length c0_0, .bool a0_1] 24 (0, 0)) (za BK196.out) hg (Kd.R_ne HO2.out BK196.out (by decide))); have n1_ := aS (hb); have n2_ := aS (Kept.of_grown (S := (fun k_ => P2_ k_)) hg (by repeat (first | (with_reducible first | exact HK.out | apply Kept.alloc | apply Kept.drewN | apply Kept.drew | refine Kept.setCell ?_ (.inr GW196.out) _) | exact HK.out)) (fun k_ e_ => (HO2.out.1 k_ e_))); have n3_ := aS (ho); clear BK196; clear HB; clear HK; clear HO2; have BK196 := n0_; have HB := n1_; have HK := n2_; have HO199 := n3_; clear n0_ n1_ n2_ n3_; clear ho hb hg hat; obtain ⟨hczL_0, hczL_1, hfzL_0, hfzL_1⟩ := bk2 BK196.out; have p200 : 0 ≤ (a1 : Int) := od zb; have q200 : a1 < (l0_0.length : Int) := od zb; obtain ⟨ad200, A200_2, c200_2, A200_5, c200_5, e200, hx200_0, hx200_1, hx200_2, hx200_3, hx200_4, hx200_5, hl200_2, hi200_2, hl200_5, hi200_5⟩ := at_T43_kept HR0_0.out HK.out a1 p200 q200; cases e200; have HR200_2 := aS hi200_2; have HC200_2 := aS hl200_2; clear hi200_2 hl200_2; have HR200_5 := aS hi200_5; have HC200_5 := aS hl200_5; clear hi200_5 hl200_5; replace p200 := eq_true p200; replace q200 := eq_true q200))
 go_loopg [2, 20] k (fun kq v2 v20 w' => ∃ (x2_1 : List Int) (x20_1 : Int), v20 = .int .i64 x20_1 ∧ Aside0 (dom_walk.l0 kq x2_1 ((q01 l0_0 a1).f5) (((q01 l0_0 a1).f5).length : Int) x20_1 l0_0 a0_1 = some r) ∧ Aside0 (kq ≤ k) ∧ Aside0 (Kd.R (Kd.int .i64) 3 w' w0.heap.size (fun k_ => (P2_ k_ ∨ w.heap.size ≤ k_)) v2 x2_1) ∧ Aside0 (w'.heap[gb196]? = some (.cells #[(.slice (some ad200) l0_0.length c0_0), .bool a0_1] 24 (0, 0))) ∧ Aside0 (Kept w w' (fun k_ => P2_ k_)) ∧ Aside0 (Below w0.heap.size w0 w'))
 case atStart => exact ⟨(y197), (0), zi, H', ⟨Nat.le_refl _⟩, ⟨by (with_reducible repeat (first | apply rA | apply rN | apply rD)); exact HO199.out⟩, ⟨by (with_reducible repeat (first | refine kN ?_ _ | refine kD ?_ | refine kA ?_ _)); exact BK196.out⟩, ⟨by repeat (first | (with_reducible first | exact HK.out | apply Kept.alloc | apply Kept.drewN | apply Kept.drew | refine Kept.setCell ?_ (.inr GW196.out) _) | exact HK.out)⟩, ⟨by repeat (first | (with_reducible first | exact HB.out | apply bA | apply bN | apply bD | refine bS ?_ GE196.out) | exact HB.out)⟩⟩
 case round =>
  clear H'
  obtain ⟨x2_1, x20_1, rfl, HA, HK1, HO_2, BK196, HK, HB⟩ := hrel
  cases gk with
  | zero => exact absurd HA.out (by simp [dom_walk.l0])
  | succ k1 =>
   have H := HA.out
   clear HA
   simp only [dom_walk.l0] at H
   refine iT H ?p10 ?n10 <;> clear H
   case' p10 => intro c10b0 H; refine iLp H ?_; clear H; intro c11b0 H; refine iTp H ?_; clear H; intro c12b0 H
   case' n10 => intro c10b0 H
   case p10 =>
    replace H := iB H
    obtain ⟨t202, A13, H⟩ := H
    have H' := aS H
    clear H
    obtain ⟨ad201, e201, hx201_0, p201, q201⟩ := atIA (HR200_5.out _ HK.out) x20_1 zb zb
    cases e201
    obtain ⟨hczL_0, hczL_1, hfzL_0, hfzL_1⟩ := bk2 BK196.out
    obtain ⟨Ao15, co15, eo15⟩ := Kd.R_slice HO_2.out
    subst eo15
    go_wp2_with (first | ((with_reducible refine q07 (f := 109) rfl ?_); refine q0j (some 27) rfl rfl Tryd.func109 (by kernel_rfl) rfl #[.agg #[.slice (some ad200) l0_0.length c0_0, .bool a0_1], .int .i64 (rd ((q01 l0_0 a1).f5) x20_1), .slice Ao15 x2_1.length co15] rfl zc ?_; (with_reducible refine (ih k1 (by have := HK1.out; omega) _ _ l0_0 a0_1 (rd ((q01 l0_0 a1).f5) x20_1) (fun k_ => some k_ = (.slice Ao15 x2_1.length co15 : Value).ownBlock) (.slice Ao15 x2_1.length co15) x2_1 t202 w0 _ ?side1 ?side2 ?side3 ?side4 A13.out).mono ?_); (case side1 => repeat (first | (with_reducible first | exact HB.out | apply bA | apply bN | apply bD | refine bS ?_ GE196.out) | exact HB.out)); (case side2 => exact Kd.C_kept_call HR0_0.out (by repeat (first | (with_reducible first | exact HK.out | apply Kept.alloc | apply Kept.drewN | apply Kept.drew | refine Kept.setCell ?_ (.inr GW196.out) _) | exact HK.out)) (fun k_ hs_ => (fun e_ => (HO_2.out.1 k_ e_.symm)) hs_)); (case side3 => exact HC0_0.out); (case side4 => exact Kd.R_tight rfl HO_2.out); rintro e w16 ⟨v203, rfl, ho0, hb, hkp⟩; refine ⟨_, rfl, ?_⟩; have n0_ := aS (blk_kept (za BK196.out) hkp (fun hs_ => (fun e_ => (Kd.R_ne HO_2.out BK196.out (by decide)) e_) hs_)); have n1_ := aS (Kd.R_mono (ok' := fun k_ => (P2_ k_ ∨ w.heap.size ≤ k_)) ho0 (fun k_ hk_ => Or.elim hk_ (fun hs_ => (HO_2.out.1 k_ (hs_).symm)) (fun hn_ => (.inr (Nat.le_trans (by first | exact HK.out.1 | exact (show Kept w _ (fun k_ => P2_ k_) from by repeat (first | (with_reducible first | exact HK.out | apply Kept.alloc | apply Kept.drewN | apply Kept.drew | refine Kept.setCell ?_ (.inr GW196.out) _) | exact HK.out)).1) hn_))))); have n2_ := aS (Kept.then_ (S := (fun k_ => P2_ k_)) (by repeat (first | (with_reducible first | exact HK.out | apply Kept.alloc | apply Kept.drewN | apply Kept.drew | refine Kept.setCell ?_ (.inr GW196.out) _) | exact HK.out)) hkp (fun k_ hs_ => (fun e_ => (HO_2.out.1 k_ e_.symm)) hs_)); have n3_ := aS (hb); clear BK196; clear HK; clear HB; clear HO_2; have BK196 := n0_; have HO204 := n1_; have HK := n2_; have HB := n3_; clear n0_ n1_ n2_ n3_; (try clear hb); (try clear hkp); (try clear ho0)))
    go_roundg k1
    case measure => have := HK1.out; omega
    case rel => exact ⟨(t202), (wrap64 (x20_1 + 1)), zi, H', ⟨by have := HK1.out; omega⟩, ⟨by (with_reducible repeat (first | apply rA | apply rN | apply rD)); exact HO204.out⟩, ⟨by (with_reducible repeat (first | refine kN ?_ _ | refine kD ?_ | refine kA ?_ _)); exact BK196.out⟩, ⟨by repeat (first | (with_reducible first | exact HK.out | apply Kept.alloc | apply Kept.drewN | apply Kept.drew | refine Kept.setCell ?_ (.inr GW196.out) _) | exact HK.out)⟩, ⟨by repeat (first | (with_reducible first | exact HB.out | apply bA | apply bN | apply bD | refine bS ?_ GE196.out) | exact HB.out)⟩⟩
   case n10 =>
    obtain rfl := Option.some.inj H
    go_wp2
    go_ret
    exact ⟨_, by first | rfl | (simp [q04, q03] <;> rfl) | (simp [*, q04, q03] <;> rfl), by (with_reducible repeat (first | apply rA | apply rN | apply rD)); exact HO_2.out, by repeat (first | (with_reducible first | exact HB.out | apply bA | apply bN | apply bD | refine bS ?_ GE196.out) | exact HB.out), by repeat (first | (with_reducible first | exact HK.out | apply Kept.alloc | apply Kept.drewN | apply Kept.drew | refine Kept.setCell ?_ (.inr GW196.out) _) | exact HK.out)⟩
def dom_Order.f (k : Nat) (l0_0 : List (S43)) (a0_1 : Bool) : Option (List Int × Int) := (dom_Check.f k l0_0 a0_1).bind fun t206 => (if t206 = 0 then ((dom_walk.f k l0_0 a0_1 0 ([] : List Int)).bind fun t207 => (some (t207, 0))) else (some (([] : List Int), t206)))
theorem dom_Order.mono : ∀ a0 a1 k, LeO (dom_Order.f k a0 a1) (dom_Order.f (k + 1) a0 a1) := by
 intro a0 a1 k
 unfold dom_Order.f
 repeat' first | with_reducible first | apply dom_Check.mono | apply dom_walk.mono | exact LeO.refl _ | exact LeO.none _ | refine LeO.ite ?_ ?_ | refine LeO.bind ?_ (fun _ => ?_) | (first | apply dom_Check.mono | apply dom_walk.mono | exact LeO.none _ | refine LeO.ite ?_ ?_ | refine LeO.bind ?_ (fun _ => ?_))
set_option maxHeartbeats 8000000 in
set_option maxRecDepth 100000 in
theorem dom_Order.calls (k : Nat) (A0_0 : Option Addr) (c0_0 : Nat) (l0_0 : List (S43)) (a0_1 : Bool) (r1 : List Int) (r2 : Int) (w : World) (hr0_0 : Kd.C k43 w A0_0 l0_0.length l0_0) (hc0_0 : l0_0.length ≤ c0_0) (h : dom_Order.f k l0_0 a0_1 = some (r1, r2)) :
 Calls Tryd.prog 59 #[.agg #[.slice A0_0 l0_0.length c0_0, .bool a0_1]] w fun e w' => ∃ v0_ : Value, e = .returned (.tuple #[v0_, .int .i64 r2]) ∧ Kd.R (Kd.int .i64) 3 w' w.heap.size (fun _ => True) v0_ r1 ∧ Below w.heap.size w w' := by
 have hu24 := Tryd.underlying24
 have HR0_0 := aS hr0_0
 have HC0_0 := aS hc0_0
 clear hr0_0 hc0_0
 have HB := aS (Below.refl w.heap.size w)
 have H := h; clear h; unfold dom_Order.f at H
 replace H := iB H
 obtain ⟨t206, A2, H⟩ := H
 refine iE H ?p3 ?n3 <;> clear H
 case' p3 => intro c3b0 c3b1 H
 case' n3 => intro c3 c3b0 c3b1 H
 case p3 =>
  replace H := iB H
  obtain ⟨t207, A4, H⟩ := H
  simp only [Option.some.injEq, Prod.mk.injEq] at H
  obtain ⟨rfl, rfl⟩ := H
  go_enter Tryd.func59, Tryd.ntmps59
  go_wp2_with (first | ((with_reducible refine q05 (N := 1) rfl ?_); refine box0 rfl (N := 1) rfl (cs := #[.slice A0_0 l0_0.length c0_0, .bool a0_1]) (t := 24) zh (z7 HB.out) ?_; clear HB; intro gb205 w5 BK205 GW205 HB; have GE205 := GW205; obtain ⟨hczL_0, hczL_1, hfzL_0, hfzL_1⟩ := bk2 BK205.out) | ((with_reducible refine q07 (f := 52) rfl ?_); refine q0j (some 6) rfl rfl Tryd.func52 (by kernel_rfl) rfl #[.agg #[.slice A0_0 l0_0.length c0_0, .bool a0_1]] rfl zc ?_; (with_reducible refine (dom_Check.calls k _ _ l0_0 a0_1 t206 _ ?side1 ?side2 A2.out).mono ?_); (case side1 => repeat (first | exact (Kd.C_below HR0_0.out HB.out) | (with_reducible refine cA ?_ _) | (with_reducible refine cN ?_ _) | (with_reducible refine cD ?_))); (case side2 => exact HC0_0.out); rintro e w7 ⟨rfl, hb⟩; refine ⟨_, rfl, ?_⟩; replace BK205 := aS (q02 (g := gb205) (o := .cells #[.slice A0_0 l0_0.length c0_0, .bool a0_1] 24 (0, 0)) (za BK205.out) hb); replace HB := aS (q00 (z6 HB.out GE205.out) hb); (try clear hb); (try clear hb2); (try clear hk); (try clear hi); obtain ⟨hczL_0, hczL_1, hfzL_0, hfzL_1⟩ := bk2 BK205.out) | ((with_reducible refine q07 (f := 109) rfl ?_); refine q0j (some 11) rfl rfl Tryd.func109 (by kernel_rfl) rfl #[.agg #[.slice A0_0 l0_0.length c0_0, .bool a0_1], .int .i64 0, .slice none 0 0] rfl zc ?_; (refine (dom_walk.calls k _ _ l0_0 a0_1 0 (fun k_ => some k_ = (.slice none 0 0 : Value).ownBlock) (.slice none 0 0) ([] : List Int) t207 w _ ?side1 ?side2 ?side3 ?side4 A4.out).mono ?_); (case side1 => repeat (first | (with_reducible first | exact HB.out | apply bA | apply bN | apply bD | refine bS ?_ GE205.out) | exact HB.out)); (case side2 => exact Kd.C_kept_came k43_heap HR0_0.out (z6 HB.out GE205.out) (fun k_ hs_ => (fun e_ => by simp [Value.ownBlock] at e_) hs_)); (case side3 => exact HC0_0.out); (case side4 => exact Kd.R_nil _ _ _ _ _); rintro e w9 ⟨v208, rfl, ho0, hb, hkp⟩; refine ⟨_, rfl, ?_⟩; replace BK205 := aS (blk_kept (za BK205.out) hkp (fun hs_ => (fun e_ => by simp [Value.ownBlock] at e_) hs_)); have HO209 := aS (Kd.R_mono (ok' := fun k_ => True) ho0 (fun k_ hk_ => trivial)); replace HB := aS (hb); (try clear hb); (try clear hkp); (try clear ho0)))
  go_ret2
  exact ⟨_, by first | rfl | (simp [q04, q03] <;> rfl) | (simp [*, q04, q03] <;> rfl), by (with_reducible repeat (first | apply rA | apply rN | apply rD)); exact HO209.out, by repeat (first | (with_reducible first | exact HB.out | apply bA | apply bN | apply bD | refine bS ?_ GE205.out) | exact HB.out)⟩
 case n3 =>
  simp only [Option.some.injEq, Prod.mk.injEq] at H
  obtain ⟨rfl, rfl⟩ := H
  go_enter Tryd.func59, Tryd.ntmps59
  go_wp2_with (first | ((with_reducible refine q05 (N := 1) rfl ?_); refine box0 rfl (N := 1) rfl (cs := #[.slice A0_0 l0_0.length c0_0, .bool a0_1]) (t := 24) zh (z7 HB.out) ?_; clear HB; intro gb205 w10 BK205 GW205 HB; have GE205 := GW205; obtain ⟨hczL_0, hczL_1, hfzL_0, hfzL_1⟩ := bk2 BK205.out) | ((with_reducible refine q07 (f := 52) rfl ?_); refine q0j (some 6) rfl rfl Tryd.func52 (by kernel_rfl) rfl #[.agg #[.slice A0_0 l0_0.length c0_0, .bool a0_1]] rfl zc ?_; (with_reducible refine (dom_Check.calls k _ _ l0_0 a0_1 t206 _ ?side1 ?side2 A2.out).mono ?_); (case side1 => repeat (first | exact (Kd.C_below HR0_0.out HB.out) | (with_reducible refine cA ?_ _) | (with_reducible refine cN ?_ _) | (with_reducible refine cD ?_))); (case side2 => exact HC0_0.out); rintro e w12 ⟨rfl, hb⟩; refine ⟨_, rfl, ?_⟩; replace BK205 := aS (q02 (g := gb205) (o := .cells #[.slice A0_0 l0_0.length c0_0, .bool a0_1] 24 (0, 0)) (za BK205.out) hb); replace HB := aS (q00 (z6 HB.out GE205.out) hb); (try clear hb); (try clear hb2); (try clear hk); (try clear hi)))
  go_ret2
  exact ⟨_, by first | rfl | (simp [q04, q03] <;> rfl) | (simp [*, q04, q03] <;> rfl), by first | exact Kd.R_nil _ _ _ _ _ | exact Kd.N_nil _ _ _ _ _ | exact Kd.V_nil _ _ _ _ _ | exact Kd.Q_nil _ _ _ _ _ | exact Kd.S_nil _ _ _ _ _, by repeat (first | (with_reducible first | exact HB.out | apply bA | apply bN | apply bD | refine bS ?_ GE205.out) | exact HB.out)⟩
def clerestorylaw1_domBegun.f (k : Nat)  : Option (Bool) := (dom_New.f).bind fun bt210 => ((dom_Apply.f k bt210.1 bt210.2 4 0 0 0 (⟨#[]⟩ : ByteArray) (⟨#[]⟩ : ByteArray) 2 (⟨#[112]⟩ : ByteArray) ([] : List (S122)) (⟨#[]⟩ : ByteArray) 0 ([] : List Int)).bind fun bt214 => ((dom_Apply.f k bt214.1 bt214.2.1 5 0 bt214.2.2.1 (-1) (⟨#[]⟩ : ByteArray) (⟨#[]⟩ : ByteArray) 0 (⟨#[]⟩ : ByteArray) ([] : List (S122)) (⟨#[]⟩ : ByteArray) 0 ([] : List Int)).bind fun bt221 => ((dom_Order.f k bt221.1 bt221.2.1).bind fun bt227 => (if bt214.2.2.1 = 1 then (if bt214.2.2.2 = 0 then (if bt221.2.2.2 = 0 then (if bt227.2 = 0 then ((clerestoryref1_SameInts.f k bt227.1 (([0, 1] : List Int))).bind fun t234 => (if t234 = true then ((dom_Check.f k ([] : List (S43)) false).bind fun t235 => (some (t235 == 3))) else (some false))) else (some false)) else (some false)) else (some false)) else (some false)))))
theorem clerestorylaw1_domBegun.mono : ∀ k, LeO (clerestorylaw1_domBegun.f k ) (clerestorylaw1_domBegun.f (k + 1) ) := by
 intro  k
 unfold clerestorylaw1_domBegun.f
 repeat' first | with_reducible first | apply clerestoryref1_SameInts.mono | apply dom_Apply.mono | apply dom_Check.mono | apply dom_Order.mono | exact LeO.refl _ | exact LeO.none _ | refine LeO.ite ?_ ?_ | refine LeO.bind ?_ (fun _ => ?_) | (first | apply clerestoryref1_SameInts.mono | apply dom_Apply.mono | apply dom_Check.mono | apply dom_Order.mono | exact LeO.none _ | refine LeO.ite ?_ ?_ | refine LeO.bind ?_ (fun _ => ?_))
set_option maxHeartbeats 8000000 in
set_option maxRecDepth 100000 in
theorem clerestorylaw1_domBegun.calls (k : Nat)  (r : Bool) (w : World) (h : clerestorylaw1_domBegun.f k  = some r) :
 Calls Tryd.prog 51 #[] w fun e w' => e = .returned (.bool r) ∧ Below w.heap.size w w' := by
 have hu43 := Tryd.underlying43
 have hu87 := Tryd.underlying87
 have hu24 := Tryd.underlying24
 have HB := aS (Below.refl w.heap.size w)
 have H := h; clear h; unfold clerestorylaw1_domBegun.f at H
 replace H := iB H
 obtain ⟨⟨t210, t213⟩, A1, H⟩ := H
 try dsimp only at H
 replace H := iB H
 obtain ⟨⟨t214, t217, t218, t219⟩, A2, H⟩ := H
 try dsimp only at H
 replace H := iB H
 obtain ⟨⟨t221, t224, t225, t226⟩, A3, H⟩ := H
 try dsimp only at H
 replace H := iB H
 obtain ⟨⟨t227, t230⟩, A4, H⟩ := H
 try dsimp only at H
 refine iE H ?p5 ?n5 <;> clear H
 case' p5 => intro c5b0 c5b1 H; refine iE H ?p6 ?n6 <;> clear H
 case' p6 => intro c6b0 c6b1 H; refine iE H ?p7 ?n7 <;> clear H
 case' p7 => intro c7b0 c7b1 H; refine iE H ?p8 ?n8 <;> clear H
 case' p8 =>
  intro c8b0 c8b1 H
  obtain ⟨y231, hy231⟩ : ∃ y_ : List Int, y_ = (([0, 1] : List Int)) := ⟨_, rfl⟩
  replace H : ((clerestoryref1_SameInts.f k t227 y231).bind fun t234 => (if t234 = true then ((dom_Check.f k ([] : List (S43)) false).bind fun t235 => (some (t235 == 3))) else (some false))) = some r := by first | (rw [hy231]; with_reducible exact H) | (have H2_ := (Option.bind_some _ _).symm.trans H; rw [hy231]; with_reducible exact H2_) | (have H2_ := (Option.bind_some _ _).symm.trans H; with_reducible exact H2_) | with_reducible exact H | (rw [hy231]; exact H) | exact H
  have Ny231 := aS hy231
  clear hy231
  replace H := iB H
  obtain ⟨t234, A9, H⟩ := H
  refine iV H ?p10 ?n10 <;> clear H
 case' p10 => intro c10 H; subst c10
 case' n10 => intro c10 H; subst c10
 case' n8 => intro c8 c8b0 c8b1 H
 case' n7 => intro c7 c7b0 c7b1 H
 case' n6 => intro c6 c6b0 c6b1 H
 case' n5 => intro c5 c5b0 c5b1 H
 case p10 =>
  replace H := iB H
  obtain ⟨t235, A11, H⟩ := H
  obtain rfl := Option.some.inj H
  go_enter Tryd.func51, Tryd.ntmps51
  go_wp2_with (first | ((with_reducible refine q07 (f := 54) rfl ?_); refine q0j (some 9) rfl rfl Tryd.func54 (by kernel_rfl) rfl #[] rfl zc ?_; (with_reducible refine (dom_New.calls  t210 t213 _ A1.out).mono ?_); rintro e w12 ⟨v211, rfl, ho0, hb⟩; refine ⟨_, rfl, ?_⟩; have HO212 := aS (Kd.S_lower ho0 (q06 (z7 HB.out))); replace HB := aS (q00 (z7 HB.out) hb); (try clear hb); (try clear hb2); (try clear hk); (try clear hi); (try clear ho0); obtain ⟨Ao13, co13, eo13⟩ := Kd.S_slice HO212.out; subst eo13) | ((with_reducible refine q07 (f := 55) rfl ?_); refine q0j (some 12) rfl rfl Tryd.func55 (by kernel_rfl) rfl #[.agg #[.slice Ao13 t210.length co13, .bool t213], .agg #[.int .i64 4, .int .i64 0, .int .i64 0, .int .i64 0, .string (⟨#[]⟩ : ByteArray), .string (⟨#[]⟩ : ByteArray), .int .i64 2, .string (⟨#[112]⟩ : ByteArray), .slice none 0 0, .string (⟨#[]⟩ : ByteArray), .int .i64 0, .slice none 0 0]] rfl zc ?_; (refine (dom_Apply.calls k _ _ t210 t213 4 0 0 0 (⟨#[]⟩ : ByteArray) (⟨#[]⟩ : ByteArray) 2 (⟨#[112]⟩ : ByteArray) _ _ ([] : List (S122)) (⟨#[]⟩ : ByteArray) 0 _ _ ([] : List Int) t214 t217 t218 t219 _ ?side1 ?side2 ?side3 ?side4 ?side5 ?side6 A2.out).mono ?_); (case side1 => repeat (first | exact (Kd.S_reads' HO212.out).2.2 | (with_reducible refine cA ?_ _) | (with_reducible refine cN ?_ _) | (with_reducible refine cD ?_))); (case side2 => exact (Kd.S_reads' HO212.out).2.1); (case side3 => exact Kd.C_nil _ _); (case side4 => exact Nat.le_refl _); (case side5 => exact Kd.C_nil _ _); (case side6 => exact Nat.le_refl _); rintro e w14 ⟨v215, rfl, ho0, hb⟩; refine ⟨_, rfl, ?_⟩; have n0_ := aS (Kd.S_elder' (zg HO212.out) (Kd.S_base ho0) hb); have n1_ := aS (Kd.S_lower (Kd.S_new' ho0 (Kd.S_lt (zg HO212.out))) (q06 (z7 HB.out))); have n2_ := aS (q00 (z7 HB.out) hb); clear HO212; clear HB; have HO212 := n0_; have HO216 := n1_; have HB := n2_; clear n0_ n1_ n2_; (try clear hb); (try clear hb2); (try clear hk); (try clear hi); (try clear ho0)) | ((with_reducible refine q05 (N := 1) rfl ?_); (try (refine q0i (by rfl) ?_; dsimp only)); refine q0p ?hg (N := 1) ?hd (cs := #[.slice none 0 0, .bool false]) (t := 24) ?hr ?_; (case hd => rfl); (case hg => rfl); (case hr => first | (go_simp; done) | (go_simp; rfl)); intro gb220 hg w15 hbox hb; replace HO212 := aS (Kd.S_below (zg HO212.out) hb); replace HO216 := aS (Kd.S_below (zg HO216.out) hb); have BK220 := aS (hbox); have GW220 := aS ((by rw [hg]; exact (q06 (z7 HB.out)) : w.heap.size ≤ gb220)); have GE220 := aS ((by rw [hg]; exact (q06 (z7 HB.out)) : w.heap.size ≤ gb220)); replace HB := aS (q00 (z7 HB.out) hb); clear hb hbox hg; obtain ⟨Ao16, co16, eo16⟩ := Kd.S_slice HO216.out; subst eo16; obtain ⟨hczL_0, hczL_1, hfzL_0, hfzL_1⟩ := bk2 BK220.out) | ((with_reducible refine q07 (f := 55) rfl ?_); refine q0j (some 20) rfl rfl Tryd.func55 (by kernel_rfl) rfl #[.agg #[.slice Ao16 t214.length co16, .bool t217], .agg #[.int .i64 5, .int .i64 0, .int .i64 t218, .int .i64 (-1), .string (⟨#[]⟩ : ByteArray), .string (⟨#[]⟩ : ByteArray), .int .i64 0, .string (⟨#[]⟩ : ByteArray), .slice none 0 0, .string (⟨#[]⟩ : ByteArray), .int .i64 0, .slice none 0 0]] rfl zc ?_; (refine (dom_Apply.calls k _ _ t214 t217 5 0 t218 (-1) (⟨#[]⟩ : ByteArray) (⟨#[]⟩ : ByteArray) 0 (⟨#[]⟩ : ByteArray) _ _ ([] : List (S122)) (⟨#[]⟩ : ByteArray) 0 _ _ ([] : List Int) t221 t224 t225 t226 _ ?side1 ?side2 ?side3 ?side4 ?side5 ?side6 A3.out).mono ?_); (case side1 => refine (Kd.S_reads' (e := 43) (base := w.heap.size) (ok := fun k_ => (True ∧ some k_ ≠ (.slice Ao13 t210.length co13 : Value).ownBlock)) (n := t214.length) (c := co16) ?_).2.2; exact (by (with_reducible repeat (first | apply sA | apply sN | apply sD)); exact (Kd.S_mono (Kd.S_far (p := ⟨gb220, 1, none⟩) (Kd.S_far (p := ⟨gb220, 0, none⟩) (Kd.S_types HO216.out BK220.out (by decide)) (fun _ hk => hk.2) (.slice Ao16 t214.length co16)) (fun _ hk => hk.2) (.bool t217)) (fun _ h_ => h_.1)))); (case side2 => exact (Kd.S_reads' HO216.out).2.1); (case side3 => exact Kd.C_nil _ _); (case side4 => exact Nat.le_refl _); (case side5 => exact Kd.C_nil _ _); (case side6 => exact Nat.le_refl _); rintro e w18 ⟨v222, rfl, ho0, hb⟩; refine ⟨_, rfl, ?_⟩; have n0_ := aS (Kd.S_elder' (by (with_reducible repeat (first | apply sA | apply sN | apply sD)); exact (Kd.S_mono (Kd.S_far (p := ⟨gb220, 1, none⟩) (Kd.S_far (p := ⟨gb220, 0, none⟩) (Kd.S_types HO212.out BK220.out (by decide)) (fun _ hk => hk.2) (.slice Ao16 t214.length co16)) (fun _ hk => hk.2) (.bool t217)) (fun _ h_ => h_.1))) (Kd.S_base ho0) hb); have n1_ := aS (Kd.S_elder' (by (with_reducible repeat (first | apply sA | apply sN | apply sD)); exact (Kd.S_mono (Kd.S_far (p := ⟨gb220, 1, none⟩) (Kd.S_far (p := ⟨gb220, 0, none⟩) (Kd.S_types HO216.out BK220.out (by decide)) (fun _ hk => hk.2) (.slice Ao16 t214.length co16)) (fun _ hk => hk.2) (.bool t217)) (fun _ h_ => h_.1))) (Kd.S_base ho0) hb); have n2_ := aS (Kd.S_lower (Kd.S_new' (Kd.S_new' ho0 (Kd.S_lt (by (with_reducible repeat (first | apply sA | apply sN | apply sD)); exact (Kd.S_mono (Kd.S_far (p := ⟨gb220, 1, none⟩) (Kd.S_far (p := ⟨gb220, 0, none⟩) (Kd.S_types HO212.out BK220.out (by decide)) (fun _ hk => hk.2) (.slice Ao16 t214.length co16)) (fun _ hk => hk.2) (.bool t217)) (fun _ h_ => h_.1))))) (Kd.S_lt (by (with_reducible repeat (first | apply sA | apply sN | apply sD)); exact (Kd.S_mono (Kd.S_far (p := ⟨gb220, 1, none⟩) (Kd.S_far (p := ⟨gb220, 0, none⟩) (Kd.S_types HO216.out BK220.out (by decide)) (fun _ hk => hk.2) (.slice Ao16 t214.length co16)) (fun _ hk => hk.2) (.bool t217)) (fun _ h_ => h_.1))))) (q06 (z6 HB.out GE220.out))); have n3_ := aS (q02 (g := gb220) (o := .cells #[.slice Ao16 t214.length co16, .bool t217] 24 (0, 0)) (by (with_reducible repeat (first | refine kN ?_ _ | refine kD ?_ | refine kA ?_ _)); refine q0g (cs := #[.slice Ao16 t214.length co16, .bool false]) ?_ 1 _ rfl; (with_reducible repeat (first | refine kN ?_ _ | refine kD ?_ | refine kA ?_ _)); refine q0g (cs := #[.slice none 0 0, .bool false]) ?_ 0 _ rfl; (with_reducible repeat (first | refine kN ?_ _ | refine kD ?_ | refine kA ?_ _)); exact BK220.out) hb); have n4_ := aS (q00 (z6 HB.out GE220.out) hb); clear HO212; clear HO216; clear BK220; clear HB; have HO212 := n0_; have HO216 := n1_; have HO223 := n2_; have BK220 := n3_; have HB := n4_; clear n0_ n1_ n2_ n3_ n4_; (try clear hb); (try clear hb2); (try clear hk); (try clear hi); (try clear ho0); obtain ⟨Ao19, co19, eo19⟩ := Kd.S_slice HO223.out; subst eo19; obtain ⟨hczL_0, hczL_1, hfzL_0, hfzL_1⟩ := bk2 BK220.out) | ((with_reducible refine q07 (f := 59) rfl ?_); refine q0j (some 26) rfl rfl Tryd.func59 (by kernel_rfl) rfl #[.agg #[.slice Ao19 t221.length co19, .bool t224]] rfl zc ?_; (with_reducible refine (dom_Order.calls k _ _ t221 t224 t227 t230 _ ?side1 ?side2 A4.out).mono ?_); (case side1 => refine (Kd.S_reads' (e := 43) (base := w.heap.size) (ok := fun k_ => ((True ∧ some k_ ≠ (.slice Ao13 t210.length co13 : Value).ownBlock) ∧ some k_ ≠ (.slice Ao16 t214.length co16 : Value).ownBlock)) (n := t221.length) (c := co19) ?_).2.2; exact (by (with_reducible repeat (first | apply sA | apply sN | apply sD)); exact (Kd.S_mono (Kd.S_far (p := ⟨gb220, 1, none⟩) (Kd.S_far (p := ⟨gb220, 0, none⟩) (Kd.S_types HO223.out BK220.out (by decide)) (fun _ hk => hk.2) (.slice Ao19 t221.length co19)) (fun _ hk => hk.2) (.bool t224)) (fun _ h_ => h_.1)))); (case side2 => exact (Kd.S_reads' HO223.out).2.1); rintro e w21 ⟨v228, rfl, ho0, hb⟩; refine ⟨_, rfl, ?_⟩; replace HO212 := aS (Kd.S_elder' (by (with_reducible repeat (first | apply sA | apply sN | apply sD)); exact (Kd.S_mono (Kd.S_far (p := ⟨gb220, 1, none⟩) (Kd.S_far (p := ⟨gb220, 0, none⟩) (Kd.S_types HO212.out BK220.out (by decide)) (fun _ hk => hk.2) (.slice Ao19 t221.length co19)) (fun _ hk => hk.2) (.bool t224)) (fun _ h_ => h_.1))) (Kd.R_base ho0) hb); replace HO216 := aS (Kd.S_elder' (by (with_reducible repeat (first | apply sA | apply sN | apply sD)); exact (Kd.S_mono (Kd.S_far (p := ⟨gb220, 1, none⟩) (Kd.S_far (p := ⟨gb220, 0, none⟩) (Kd.S_types HO216.out BK220.out (by decide)) (fun _ hk => hk.2) (.slice Ao19 t221.length co19)) (fun _ hk => hk.2) (.bool t224)) (fun _ h_ => h_.1))) (Kd.R_base ho0) hb); replace HO223 := aS (Kd.S_elder' (by (with_reducible repeat (first | apply sA | apply sN | apply sD)); exact (Kd.S_mono (Kd.S_far (p := ⟨gb220, 1, none⟩) (Kd.S_far (p := ⟨gb220, 0, none⟩) (Kd.S_types HO223.out BK220.out (by decide)) (fun _ hk => hk.2) (.slice Ao19 t221.length co19)) (fun _ hk => hk.2) (.bool t224)) (fun _ h_ => h_.1))) (Kd.R_base ho0) hb); have HO229 := aS (Kd.R_lower ho0 (q06 (z6 HB.out GE220.out))); replace BK220 := aS (q02 (g := gb220) (o := .cells #[.slice Ao19 t221.length co19, .bool t224] 24 (0, 0)) (by (with_reducible repeat (first | refine kN ?_ _ | refine kD ?_ | refine kA ?_ _)); refine q0g (cs := #[.slice Ao19 t221.length co19, .bool t217]) ?_ 1 _ rfl; (with_reducible repeat (first | refine kN ?_ _ | refine kD ?_ | refine kA ?_ _)); refine q0g (cs := #[.slice Ao16 t214.length co16, .bool t217]) ?_ 0 _ rfl; (with_reducible repeat (first | refine kN ?_ _ | refine kD ?_ | refine kA ?_ _)); exact BK220.out) hb); replace HB := aS (q00 (z6 HB.out GE220.out) hb); (try clear hb); (try clear hb2); (try clear hk); (try clear hi); (try clear ho0)) | ((with_reducible refine q05 (N := 45) rfl ?_); (try (refine q0i (by rfl) ?_; dsimp only)); refine Kd.R_lit (Kd.int .i64) _ 3 ?hg (N := 45) ?hd (xs := ([0, 1] : List Int)) (inner := [.int .i64 0, .int .i64 1]) (ok := fun _ => True) (okp := fun _ => True) ?hr ?hp (fun _ hk => hk) trivial (Below.refl _ _) (Nat.le_refl _) (by simp) ?_; (case hd => rfl); (case hg => rfl); (case hr => first | (go_simp; done) | (go_simp; rfl)); (case hp => exact (Reps.one (show Kd.M (Kd.int .i64) _ _ _ 0 [.int .i64 0] from rfl) (Reps.one (show Kd.M (Kd.int .i64) _ _ _ 1 [.int .i64 1] from rfl) (Reps.none _ _)))); intro v232 w22 ho23 hb hg_ hnew_; clear hg_ hnew_; (first | rw [← Ny231.out] at ho23 | (simp only [Int.reduceToNat] at ho23; rw [← Ny231.out] at ho23)); have n0_ := aS (Kd.S_elder' (zg HO212.out) (Kd.R_base ho23) hb); have n1_ := aS (Kd.S_elder' (zg HO216.out) (Kd.R_base ho23) hb); have n2_ := aS (Kd.S_elder' (zg HO223.out) (Kd.R_base ho23) hb); have n3_ := aS (Kd.R_elder' (zf HO229.out) (Kd.R_base ho23) hb); have n4_ := aS (Kd.R_lower (Kd.R_new' ho23 (Kd.R_lt (zf HO229.out))) (q06 (z6 HB.out GE220.out))); have n5_ := aS (q02 (g := gb220) (o := .cells #[.slice Ao19 t221.length co19, .bool t224] 24 (0, 0)) (za BK220.out) hb); have n6_ := aS (q00 (z6 HB.out GE220.out) hb); clear HO212; clear HO216; clear HO223; clear HO229; clear BK220; clear HB; have HO212 := n0_; have HO216 := n1_; have HO223 := n2_; have HO229 := n3_; have HO233 := n4_; have BK220 := n5_; have HB := n6_; clear n0_ n1_ n2_ n3_ n4_ n5_ n6_; clear hb ho23; obtain ⟨Ao24, co24, eo24⟩ := Kd.R_slice HO229.out; subst eo24; obtain ⟨Ao25, co25, eo25⟩ := Kd.R_slice HO233.out; subst eo25) | (go_at_call 30; (with_reducible refine (clerestoryref1_SameInts.calls k _ _ t227 _ _ y231 true _ ?side1 ?side2 ?side3 ?side4 A9.out).mono ?_); (case side1 => repeat (first | exact (Kd.R_reads' HO229.out).2.2 | (with_reducible refine cA ?_ _) | (with_reducible refine cN ?_ _) | (with_reducible refine cD ?_))); (case side2 => exact (Kd.R_reads' HO229.out).2.1); (case side3 => repeat (first | exact (Kd.R_reads' HO233.out).2.2 | (with_reducible refine cA ?_ _) | (with_reducible refine cN ?_ _) | (with_reducible refine cD ?_))); (case side4 => exact (Kd.R_reads' HO233.out).2.1); rintro e w' ⟨rfl, ⟨nd, rfl⟩⟩) | (go_at_call 52; (refine (dom_Check.calls k _ _ ([] : List (S43)) false t235 _ ?side1 ?side2 A11.out).mono ?_); (case side1 => exact Kd.C_nil _ _); (case side2 => exact Nat.le_refl _); rintro e w26 ⟨rfl, hb⟩; replace HO212 := aS (Kd.S_below (zg HO212.out) hb); replace HO216 := aS (Kd.S_below (zg HO216.out) hb); replace HO223 := aS (Kd.S_below (zg HO223.out) hb); replace HO229 := aS (Kd.R_below (zf HO229.out) hb); replace HO233 := aS (Kd.R_below (zf HO233.out) hb); replace BK220 := aS (q02 (g := gb220) (o := .cells #[.slice Ao19 t221.length co19, .bool t224] 24 (0, 0)) (za BK220.out) hb); replace HB := aS (q00 (z6 HB.out GE220.out) hb); (try clear hb); (try clear hb2); (try clear hk); (try clear hi)))
  go_ret
  exact ⟨by first | rfl | (simp [q04, q03] <;> rfl) | (simp [*, q04, q03] <;> rfl), by repeat (first | (with_reducible first | exact HB.out | apply bA | apply bN | apply bD | refine bS ?_ GE220.out) | exact HB.out)⟩
 case n10 =>
  obtain rfl := Option.some.inj H
  go_enter Tryd.func51, Tryd.ntmps51
  go_wp2_with (first | ((with_reducible refine q07 (f := 54) rfl ?_); refine q0j (some 9) rfl rfl Tryd.func54 (by kernel_rfl) rfl #[] rfl zc ?_; (with_reducible refine (dom_New.calls  t210 t213 _ A1.out).mono ?_); rintro e w27 ⟨v211, rfl, ho0, hb⟩; refine ⟨_, rfl, ?_⟩; have HO212 := aS (Kd.S_lower ho0 (q06 (z7 HB.out))); replace HB := aS (q00 (z7 HB.out) hb); (try clear hb); (try clear hb2); (try clear hk); (try clear hi); (try clear ho0); obtain ⟨Ao28, co28, eo28⟩ := Kd.S_slice HO212.out; subst eo28) | ((with_reducible refine q07 (f := 55) rfl ?_); refine q0j (some 12) rfl rfl Tryd.func55 (by kernel_rfl) rfl #[.agg #[.slice Ao28 t210.length co28, .bool t213], .agg #[.int .i64 4, .int .i64 0, .int .i64 0, .int .i64 0, .string (⟨#[]⟩ : ByteArray), .string (⟨#[]⟩ : ByteArray), .int .i64 2, .string (⟨#[112]⟩ : ByteArray), .slice none 0 0, .string (⟨#[]⟩ : ByteArray), .int .i64 0, .slice none 0 0]] rfl zc ?_; (refine (dom_Apply.calls k _ _ t210 t213 4 0 0 0 (⟨#[]⟩ : ByteArray) (⟨#[]⟩ : ByteArray) 2 (⟨#[112]⟩ : ByteArray) _ _ ([] : List (S122)) (⟨#[]⟩ : ByteArray) 0 _ _ ([] : List Int) t214 t217 t218 t219 _ ?side1 ?side2 ?side3 ?side4 ?side5 ?side6 A2.out).mono ?_); (case side1 => repeat (first | exact (Kd.S_reads' HO212.out).2.2 | (with_reducible refine cA ?_ _) | (with_reducible refine cN ?_ _) | (with_reducible refine cD ?_))); (case side2 => exact (Kd.S_reads' HO212.out).2.1); (case side3 => exact Kd.C_nil _ _); (case side4 => exact Nat.le_refl _); (case side5 => exact Kd.C_nil _ _); (case side6 => exact Nat.le_refl _); rintro e w29 ⟨v215, rfl, ho0, hb⟩; refine ⟨_, rfl, ?_⟩; have n0_ := aS (Kd.S_elder' (zg HO212.out) (Kd.S_base ho0) hb); have n1_ := aS (Kd.S_lower (Kd.S_new' ho0 (Kd.S_lt (zg HO212.out))) (q06 (z7 HB.out))); have n2_ := aS (q00 (z7 HB.out) hb); clear HO212; clear HB; have HO212 := n0_; have HO216 := n1_; have HB := n2_; clear n0_ n1_ n2_; (try clear hb); (try clear hb2); (try clear hk); (try clear hi); (try clear ho0)) | ((with_reducible refine q05 (N := 1) rfl ?_); (try (refine q0i (by rfl) ?_; dsimp only)); refine q0p ?hg (N := 1) ?hd (cs := #[.slice none 0 0, .bool false]) (t := 24) ?hr ?_; (case hd => rfl); (case hg => rfl); (case hr => first | (go_simp; done) | (go_simp; rfl)); intro gb220 hg w30 hbox hb; replace HO212 := aS (Kd.S_below (zg HO212.out) hb); replace HO216 := aS (Kd.S_below (zg HO216.out) hb); have BK220 := aS (hbox); have GW220 := aS ((by rw [hg]; exact (q06 (z7 HB.out)) : w.heap.size ≤ gb220)); have GE220 := aS ((by rw [hg]; exact (q06 (z7 HB.out)) : w.heap.size ≤ gb220)); replace HB := aS (q00 (z7 HB.out) hb); clear hb hbox hg; obtain ⟨Ao31, co31, eo31⟩ := Kd.S_slice HO216.out; subst eo31; obtain ⟨hczL_0, hczL_1, hfzL_0, hfzL_1⟩ := bk2 BK220.out) | ((with_reducible refine q07 (f := 55) rfl ?_); refine q0j (some 20) rfl rfl Tryd.func55 (by kernel_rfl) rfl #[.agg #[.slice Ao31 t214.length co31, .bool t217], .agg #[.int .i64 5, .int .i64 0, .int .i64 t218, .int .i64 (-1), .string (⟨#[]⟩ : ByteArray), .string (⟨#[]⟩ : ByteArray), .int .i64 0, .string (⟨#[]⟩ : ByteArray), .slice none 0 0, .string (⟨#[]⟩ : ByteArray), .int .i64 0, .slice none 0 0]] rfl zc ?_; (refine (dom_Apply.calls k _ _ t214 t217 5 0 t218 (-1) (⟨#[]⟩ : ByteArray) (⟨#[]⟩ : ByteArray) 0 (⟨#[]⟩ : ByteArray) _ _ ([] : List (S122)) (⟨#[]⟩ : ByteArray) 0 _ _ ([] : List Int) t221 t224 t225 t226 _ ?side1 ?side2 ?side3 ?side4 ?side5 ?side6 A3.out).mono ?_); (case side1 => refine (Kd.S_reads' (e := 43) (base := w.heap.size) (ok := fun k_ => (True ∧ some k_ ≠ (.slice Ao28 t210.length co28 : Value).ownBlock)) (n := t214.length) (c := co31) ?_).2.2; exact (by (with_reducible repeat (first | apply sA | apply sN | apply sD)); exact (Kd.S_mono (Kd.S_far (p := ⟨gb220, 1, none⟩) (Kd.S_far (p := ⟨gb220, 0, none⟩) (Kd.S_types HO216.out BK220.out (by decide)) (fun _ hk => hk.2) (.slice Ao31 t214.length co31)) (fun _ hk => hk.2) (.bool t217)) (fun _ h_ => h_.1)))); (case side2 => exact (Kd.S_reads' HO216.out).2.1); (case side3 => exact Kd.C_nil _ _); (case side4 => exact Nat.le_refl _); (case side5 => exact Kd.C_nil _ _); (case side6 => exact Nat.le_refl _); rintro e w33 ⟨v222, rfl, ho0, hb⟩; refine ⟨_, rfl, ?_⟩; have n0_ := aS (Kd.S_elder' (by (with_reducible repeat (first | apply sA | apply sN | apply sD)); exact (Kd.S_mono (Kd.S_far (p := ⟨gb220, 1, none⟩) (Kd.S_far (p := ⟨gb220, 0, none⟩) (Kd.S_types HO212.out BK220.out (by decide)) (fun _ hk => hk.2) (.slice Ao31 t214.length co31)) (fun _ hk => hk.2) (.bool t217)) (fun _ h_ => h_.1))) (Kd.S_base ho0) hb); have n1_ := aS (Kd.S_elder' (by (with_reducible repeat (first | apply sA | apply sN | apply sD)); exact (Kd.S_mono (Kd.S_far (p := ⟨gb220, 1, none⟩) (Kd.S_far (p := ⟨gb220, 0, none⟩) (Kd.S_types HO216.out BK220.out (by decide)) (fun _ hk => hk.2) (.slice Ao31 t214.length co31)) (fun _ hk => hk.2) (.bool t217)) (fun _ h_ => h_.1))) (Kd.S_base ho0) hb); have n2_ := aS (Kd.S_lower (Kd.S_new' (Kd.S_new' ho0 (Kd.S_lt (by (with_reducible repeat (first | apply sA | apply sN | apply sD)); exact (Kd.S_mono (Kd.S_far (p := ⟨gb220, 1, none⟩) (Kd.S_far (p := ⟨gb220, 0, none⟩) (Kd.S_types HO212.out BK220.out (by decide)) (fun _ hk => hk.2) (.slice Ao31 t214.length co31)) (fun _ hk => hk.2) (.bool t217)) (fun _ h_ => h_.1))))) (Kd.S_lt (by (with_reducible repeat (first | apply sA | apply sN | apply sD)); exact (Kd.S_mono (Kd.S_far (p := ⟨gb220, 1, none⟩) (Kd.S_far (p := ⟨gb220, 0, none⟩) (Kd.S_types HO216.out BK220.out (by decide)) (fun _ hk => hk.2) (.slice Ao31 t214.length co31)) (fun _ hk => hk.2) (.bool t217)) (fun _ h_ => h_.1))))) (q06 (z6 HB.out GE220.out))); have n3_ := aS (q02 (g := gb220) (o := .cells #[.slice Ao31 t214.length co31, .bool t217] 24 (0, 0)) (by (with_reducible repeat (first | refine kN ?_ _ | refine kD ?_ | refine kA ?_ _)); refine q0g (cs := #[.slice Ao31 t214.length co31, .bool false]) ?_ 1 _ rfl; (with_reducible repeat (first | refine kN ?_ _ | refine kD ?_ | refine kA ?_ _)); refine q0g (cs := #[.slice none 0 0, .bool false]) ?_ 0 _ rfl; (with_reducible repeat (first | refine kN ?_ _ | refine kD ?_ | refine kA ?_ _)); exact BK220.out) hb); have n4_ := aS (q00 (z6 HB.out GE220.out) hb); clear HO212; clear HO216; clear BK220; clear HB; have HO212 := n0_; have HO216 := n1_; have HO223 := n2_; have BK220 := n3_; have HB := n4_; clear n0_ n1_ n2_ n3_ n4_; (try clear hb); (try clear hb2); (try clear hk); (try clear hi); (try clear ho0); obtain ⟨Ao34, co34, eo34⟩ := Kd.S_slice HO223.out; subst eo34; obtain ⟨hczL_0, hczL_1, hfzL_0, hfzL_1⟩ := bk2 BK220.out) | ((with_reducible refine q07 (f := 59) rfl ?_); refine q0j (some 26) rfl rfl Tryd.func59 (by kernel_rfl) rfl #[.agg #[.slice Ao34 t221.length co34, .bool t224]] rfl zc ?_; (with_reducible refine (dom_Order.calls k _ _ t221 t224 t227 t230 _ ?side1 ?side2 A4.out).mono ?_); (case side1 => refine (Kd.S_reads' (e := 43) (base := w.heap.size) (ok := fun k_ => ((True ∧ some k_ ≠ (.slice Ao28 t210.length co28 : Value).ownBlock) ∧ some k_ ≠ (.slice Ao31 t214.length co31 : Value).ownBlock)) (n := t221.length) (c := co34) ?_).2.2; exact (by (with_reducible repeat (first | apply sA | apply sN | apply sD)); exact (Kd.S_mono (Kd.S_far (p := ⟨gb220, 1, none⟩) (Kd.S_far (p := ⟨gb220, 0, none⟩) (Kd.S_types HO223.out BK220.out (by decide)) (fun _ hk => hk.2) (.slice Ao34 t221.length co34)) (fun _ hk => hk.2) (.bool t224)) (fun _ h_ => h_.1)))); (case side2 => exact (Kd.S_reads' HO223.out).2.1); rintro e w36 ⟨v228, rfl, ho0, hb⟩; refine ⟨_, rfl, ?_⟩; replace HO212 := aS (Kd.S_elder' (by (with_reducible repeat (first | apply sA | apply sN | apply sD)); exact (Kd.S_mono (Kd.S_far (p := ⟨gb220, 1, none⟩) (Kd.S_far (p := ⟨gb220, 0, none⟩) (Kd.S_types HO212.out BK220.out (by decide)) (fun _ hk => hk.2) (.slice Ao34 t221.length co34)) (fun _ hk => hk.2) (.bool t224)) (fun _ h_ => h_.1))) (Kd.R_base ho0) hb); replace HO216 := aS (Kd.S_elder' (by (with_reducible repeat (first | apply sA | apply sN | apply sD)); exact (Kd.S_mono (Kd.S_far (p := ⟨gb220, 1, none⟩) (Kd.S_far (p := ⟨gb220, 0, none⟩) (Kd.S_types HO216.out BK220.out (by decide)) (fun _ hk => hk.2) (.slice Ao34 t221.length co34)) (fun _ hk => hk.2) (.bool t224)) (fun _ h_ => h_.1))) (Kd.R_base ho0) hb); replace HO223 := aS (Kd.S_elder' (by (with_reducible repeat (first | apply sA | apply sN | apply sD)); exact (Kd.S_mono (Kd.S_far (p := ⟨gb220, 1, none⟩) (Kd.S_far (p := ⟨gb220, 0, none⟩) (Kd.S_types HO223.out BK220.out (by decide)) (fun _ hk => hk.2) (.slice Ao34 t221.length co34)) (fun _ hk => hk.2) (.bool t224)) (fun _ h_ => h_.1))) (Kd.R_base ho0) hb); have HO229 := aS (Kd.R_lower ho0 (q06 (z6 HB.out GE220.out))); replace BK220 := aS (q02 (g := gb220) (o := .cells #[.slice Ao34 t221.length co34, .bool t224] 24 (0, 0)) (by (with_reducible repeat (first | refine kN ?_ _ | refine kD ?_ | refine kA ?_ _)); refine q0g (cs := #[.slice Ao34 t221.length co34, .bool t217]) ?_ 1 _ rfl; (with_reducible repeat (first | refine kN ?_ _ | refine kD ?_ | refine kA ?_ _)); refine q0g (cs := #[.slice Ao31 t214.length co31, .bool t217]) ?_ 0 _ rfl; (with_reducible repeat (first | refine kN ?_ _ | refine kD ?_ | refine kA ?_ _)); exact BK220.out) hb); replace HB := aS (q00 (z6 HB.out GE220.out) hb); (try clear hb); (try clear hb2); (try clear hk); (try clear hi); (try clear ho0)) | ((with_reducible refine q05 (N := 45) rfl ?_); (try (refine q0i (by rfl) ?_; dsimp only)); refine Kd.R_lit (Kd.int .i64) _ 3 ?hg (N := 45) ?hd (xs := ([0, 1] : List Int)) (inner := [.int .i64 0, .int .i64 1]) (ok := fun _ => True) (okp := fun _ => True) ?hr ?hp (fun _ hk => hk) trivial (Below.refl _ _) (Nat.le_refl _) (by simp) ?_; (case hd => rfl); (case hg => rfl); (case hr => first | (go_simp; done) | (go_simp; rfl)); (case hp => exact (Reps.one (show Kd.M (Kd.int .i64) _ _ _ 0 [.int .i64 0] from rfl) (Reps.one (show Kd.M (Kd.int .i64) _ _ _ 1 [.int .i64 1] from rfl) (Reps.none _ _)))); intro v232 w37 ho38 hb hg_ hnew_; clear hg_ hnew_; (first | rw [← Ny231.out] at ho38 | (simp only [Int.reduceToNat] at ho38; rw [← Ny231.out] at ho38)); have n0_ := aS (Kd.S_elder' (zg HO212.out) (Kd.R_base ho38) hb); have n1_ := aS (Kd.S_elder' (zg HO216.out) (Kd.R_base ho38) hb); have n2_ := aS (Kd.S_elder' (zg HO223.out) (Kd.R_base ho38) hb); have n3_ := aS (Kd.R_elder' (zf HO229.out) (Kd.R_base ho38) hb); have n4_ := aS (Kd.R_lower (Kd.R_new' ho38 (Kd.R_lt (zf HO229.out))) (q06 (z6 HB.out GE220.out))); have n5_ := aS (q02 (g := gb220) (o := .cells #[.slice Ao34 t221.length co34, .bool t224] 24 (0, 0)) (za BK220.out) hb); have n6_ := aS (q00 (z6 HB.out GE220.out) hb); clear HO212; clear HO216; clear HO223; clear HO229; clear BK220; clear HB; have HO212 := n0_; have HO216 := n1_; have HO223 := n2_; have HO229 := n3_; have HO233 := n4_; have BK220 := n5_; have HB := n6_; clear n0_ n1_ n2_ n3_ n4_ n5_ n6_; clear hb ho38; obtain ⟨Ao39, co39, eo39⟩ := Kd.R_slice HO229.out; subst eo39; obtain ⟨Ao40, co40, eo40⟩ := Kd.R_slice HO233.out; subst eo40) | (go_at_call 30; (with_reducible refine (clerestoryref1_SameInts.calls k _ _ t227 _ _ y231 false _ ?side1 ?side2 ?side3 ?side4 A9.out).mono ?_); (case side1 => repeat (first | exact (Kd.R_reads' HO229.out).2.2 | (with_reducible refine cA ?_ _) | (with_reducible refine cN ?_ _) | (with_reducible refine cD ?_))); (case side2 => exact (Kd.R_reads' HO229.out).2.1); (case side3 => repeat (first | exact (Kd.R_reads' HO233.out).2.2 | (with_reducible refine cA ?_ _) | (with_reducible refine cN ?_ _) | (with_reducible refine cD ?_))); (case side4 => exact (Kd.R_reads' HO233.out).2.1); rintro e w' ⟨rfl, ⟨nd, rfl⟩⟩))
  go_ret
  exact ⟨by first | rfl | (simp [q04, q03] <;> rfl) | (simp [*, q04, q03] <;> rfl), by repeat (first | (with_reducible first | exact HB.out | apply bA | apply bN | apply bD | refine bS ?_ GE220.out) | exact HB.out)⟩
 case n8 =>
  obtain rfl := Option.some.inj H
  go_enter Tryd.func51, Tryd.ntmps51
  go_wp2_with (first | ((with_reducible refine q07 (f := 54) rfl ?_); refine q0j (some 9) rfl rfl Tryd.func54 (by kernel_rfl) rfl #[] rfl zc ?_; (with_reducible refine (dom_New.calls  t210 t213 _ A1.out).mono ?_); rintro e w41 ⟨v211, rfl, ho0, hb⟩; refine ⟨_, rfl, ?_⟩; have HO212 := aS (Kd.S_lower ho0 (q06 (z7 HB.out))); replace HB := aS (q00 (z7 HB.out) hb); (try clear hb); (try clear hb2); (try clear hk); (try clear hi); (try clear ho0); obtain ⟨Ao42, co42, eo42⟩ := Kd.S_slice HO212.out; subst eo42) | ((with_reducible refine q07 (f := 55) rfl ?_); refine q0j (some 12) rfl rfl Tryd.func55 (by kernel_rfl) rfl #[.agg #[.slice Ao42 t210.length co42, .bool t213], .agg #[.int .i64 4, .int .i64 0, .int .i64 0, .int .i64 0, .string (⟨#[]⟩ : ByteArray), .string (⟨#[]⟩ : ByteArray), .int .i64 2, .string (⟨#[112]⟩ : ByteArray), .slice none 0 0, .string (⟨#[]⟩ : ByteArray), .int .i64 0, .slice none 0 0]] rfl zc ?_; (refine (dom_Apply.calls k _ _ t210 t213 4 0 0 0 (⟨#[]⟩ : ByteArray) (⟨#[]⟩ : ByteArray) 2 (⟨#[112]⟩ : ByteArray) _ _ ([] : List (S122)) (⟨#[]⟩ : ByteArray) 0 _ _ ([] : List Int) t214 t217 t218 t219 _ ?side1 ?side2 ?side3 ?side4 ?side5 ?side6 A2.out).mono ?_); (case side1 => repeat (first | exact (Kd.S_reads' HO212.out).2.2 | (with_reducible refine cA ?_ _) | (with_reducible refine cN ?_ _) | (with_reducible refine cD ?_))); (case side2 => exact (Kd.S_reads' HO212.out).2.1); (case side3 => exact Kd.C_nil _ _); (case side4 => exact Nat.le_refl _); (case side5 => exact Kd.C_nil _ _); (case side6 => exact Nat.le_refl _); rintro e w43 ⟨v215, rfl, ho0, hb⟩; refine ⟨_, rfl, ?_⟩; have n0_ := aS (Kd.S_elder' (zg HO212.out) (Kd.S_base ho0) hb); have n1_ := aS (Kd.S_lower (Kd.S_new' ho0 (Kd.S_lt (zg HO212.out))) (q06 (z7 HB.out))); have n2_ := aS (q00 (z7 HB.out) hb); clear HO212; clear HB; have HO212 := n0_; have HO216 := n1_; have HB := n2_; clear n0_ n1_ n2_; (try clear hb); (try clear hb2); (try clear hk); (try clear hi); (try clear ho0)) | ((with_reducible refine q05 (N := 1) rfl ?_); (try (refine q0i (by rfl) ?_; dsimp only)); refine q0p ?hg (N := 1) ?hd (cs := #[.slice none 0 0, .bool false]) (t := 24) ?hr ?_; (case hd => rfl); (case hg => rfl); (case hr => first | (go_simp; done) | (go_simp; rfl)); intro gb220 hg w44 hbox hb; replace HO212 := aS (Kd.S_below (zg HO212.out) hb); replace HO216 := aS (Kd.S_below (zg HO216.out) hb); have BK220 := aS (hbox); have GW220 := aS ((by rw [hg]; exact (q06 (z7 HB.out)) : w.heap.size ≤ gb220)); have GE220 := aS ((by rw [hg]; exact (q06 (z7 HB.out)) : w.heap.size ≤ gb220)); replace HB := aS (q00 (z7 HB.out) hb); clear hb hbox hg; obtain ⟨Ao45, co45, eo45⟩ := Kd.S_slice HO216.out; subst eo45; obtain ⟨hczL_0, hczL_1, hfzL_0, hfzL_1⟩ := bk2 BK220.out) | ((with_reducible refine q07 (f := 55) rfl ?_); refine q0j (some 20) rfl rfl Tryd.func55 (by kernel_rfl) rfl #[.agg #[.slice Ao45 t214.length co45, .bool t217], .agg #[.int .i64 5, .int .i64 0, .int .i64 t218, .int .i64 (-1), .string (⟨#[]⟩ : ByteArray), .string (⟨#[]⟩ : ByteArray), .int .i64 0, .string (⟨#[]⟩ : ByteArray), .slice none 0 0, .string (⟨#[]⟩ : ByteArray), .int .i64 0, .slice none 0 0]] rfl zc ?_; (refine (dom_Apply.calls k _ _ t214 t217 5 0 t218 (-1) (⟨#[]⟩ : ByteArray) (⟨#[]⟩ : ByteArray) 0 (⟨#[]⟩ : ByteArray) _ _ ([] : List (S122)) (⟨#[]⟩ : ByteArray) 0 _ _ ([] : List Int) t221 t224 t225 t226 _ ?side1 ?side2 ?side3 ?side4 ?side5 ?side6 A3.out).mono ?_); (case side1 => refine (Kd.S_reads' (e := 43) (base := w.heap.size) (ok := fun k_ => (True ∧ some k_ ≠ (.slice Ao42 t210.length co42 : Value).ownBlock)) (n := t214.length) (c := co45) ?_).2.2; exact (by (with_reducible repeat (first | apply sA | apply sN | apply sD)); exact (Kd.S_mono (Kd.S_far (p := ⟨gb220, 1, none⟩) (Kd.S_far (p := ⟨gb220, 0, none⟩) (Kd.S_types HO216.out BK220.out (by decide)) (fun _ hk => hk.2) (.slice Ao45 t214.length co45)) (fun _ hk => hk.2) (.bool t217)) (fun _ h_ => h_.1)))); (case side2 => exact (Kd.S_reads' HO216.out).2.1); (case side3 => exact Kd.C_nil _ _); (case side4 => exact Nat.le_refl _); (case side5 => exact Kd.C_nil _ _); (case side6 => exact Nat.le_refl _); rintro e w47 ⟨v222, rfl, ho0, hb⟩; refine ⟨_, rfl, ?_⟩; have n0_ := aS (Kd.S_elder' (by (with_reducible repeat (first | apply sA | apply sN | apply sD)); exact (Kd.S_mono (Kd.S_far (p := ⟨gb220, 1, none⟩) (Kd.S_far (p := ⟨gb220, 0, none⟩) (Kd.S_types HO212.out BK220.out (by decide)) (fun _ hk => hk.2) (.slice Ao45 t214.length co45)) (fun _ hk => hk.2) (.bool t217)) (fun _ h_ => h_.1))) (Kd.S_base ho0) hb); have n1_ := aS (Kd.S_elder' (by (with_reducible repeat (first | apply sA | apply sN | apply sD)); exact (Kd.S_mono (Kd.S_far (p := ⟨gb220, 1, none⟩) (Kd.S_far (p := ⟨gb220, 0, none⟩) (Kd.S_types HO216.out BK220.out (by decide)) (fun _ hk => hk.2) (.slice Ao45 t214.length co45)) (fun _ hk => hk.2) (.bool t217)) (fun _ h_ => h_.1))) (Kd.S_base ho0) hb); have n2_ := aS (Kd.S_lower (Kd.S_new' (Kd.S_new' ho0 (Kd.S_lt (by (with_reducible repeat (first | apply sA | apply sN | apply sD)); exact (Kd.S_mono (Kd.S_far (p := ⟨gb220, 1, none⟩) (Kd.S_far (p := ⟨gb220, 0, none⟩) (Kd.S_types HO212.out BK220.out (by decide)) (fun _ hk => hk.2) (.slice Ao45 t214.length co45)) (fun _ hk => hk.2) (.bool t217)) (fun _ h_ => h_.1))))) (Kd.S_lt (by (with_reducible repeat (first | apply sA | apply sN | apply sD)); exact (Kd.S_mono (Kd.S_far (p := ⟨gb220, 1, none⟩) (Kd.S_far (p := ⟨gb220, 0, none⟩) (Kd.S_types HO216.out BK220.out (by decide)) (fun _ hk => hk.2) (.slice Ao45 t214.length co45)) (fun _ hk => hk.2) (.bool t217)) (fun _ h_ => h_.1))))) (q06 (z6 HB.out GE220.out))); have n3_ := aS (q02 (g := gb220) (o := .cells #[.slice Ao45 t214.length co45, .bool t217] 24 (0, 0)) (by (with_reducible repeat (first | refine kN ?_ _ | refine kD ?_ | refine kA ?_ _)); refine q0g (cs := #[.slice Ao45 t214.length co45, .bool false]) ?_ 1 _ rfl; (with_reducible repeat (first | refine kN ?_ _ | refine kD ?_ | refine kA ?_ _)); refine q0g (cs := #[.slice none 0 0, .bool false]) ?_ 0 _ rfl; (with_reducible repeat (first | refine kN ?_ _ | refine kD ?_ | refine kA ?_ _)); exact BK220.out) hb); have n4_ := aS (q00 (z6 HB.out GE220.out) hb); clear HO212; clear HO216; clear BK220; clear HB; have HO212 := n0_; have HO216 := n1_; have HO223 := n2_; have BK220 := n3_; have HB := n4_; clear n0_ n1_ n2_ n3_ n4_; (try clear hb); (try clear hb2); (try clear hk); (try clear hi); (try clear ho0); obtain ⟨Ao48, co48, eo48⟩ := Kd.S_slice HO223.out; subst eo48; obtain ⟨hczL_0, hczL_1, hfzL_0, hfzL_1⟩ := bk2 BK220.out) | ((with_reducible refine q07 (f := 59) rfl ?_); refine q0j (some 26) rfl rfl Tryd.func59 (by kernel_rfl) rfl #[.agg #[.slice Ao48 t221.length co48, .bool t224]] rfl zc ?_; (with_reducible refine (dom_Order.calls k _ _ t221 t224 t227 t230 _ ?side1 ?side2 A4.out).mono ?_); (case side1 => refine (Kd.S_reads' (e := 43) (base := w.heap.size) (ok := fun k_ => ((True ∧ some k_ ≠ (.slice Ao42 t210.length co42 : Value).ownBlock) ∧ some k_ ≠ (.slice Ao45 t214.length co45 : Value).ownBlock)) (n := t221.length) (c := co48) ?_).2.2; exact (by (with_reducible repeat (first | apply sA | apply sN | apply sD)); exact (Kd.S_mono (Kd.S_far (p := ⟨gb220, 1, none⟩) (Kd.S_far (p := ⟨gb220, 0, none⟩) (Kd.S_types HO223.out BK220.out (by decide)) (fun _ hk => hk.2) (.slice Ao48 t221.length co48)) (fun _ hk => hk.2) (.bool t224)) (fun _ h_ => h_.1)))); (case side2 => exact (Kd.S_reads' HO223.out).2.1); rintro e w50 ⟨v228, rfl, ho0, hb⟩; refine ⟨_, rfl, ?_⟩; replace HO212 := aS (Kd.S_elder' (by (with_reducible repeat (first | apply sA | apply sN | apply sD)); exact (Kd.S_mono (Kd.S_far (p := ⟨gb220, 1, none⟩) (Kd.S_far (p := ⟨gb220, 0, none⟩) (Kd.S_types HO212.out BK220.out (by decide)) (fun _ hk => hk.2) (.slice Ao48 t221.length co48)) (fun _ hk => hk.2) (.bool t224)) (fun _ h_ => h_.1))) (Kd.R_base ho0) hb); replace HO216 := aS (Kd.S_elder' (by (with_reducible repeat (first | apply sA | apply sN | apply sD)); exact (Kd.S_mono (Kd.S_far (p := ⟨gb220, 1, none⟩) (Kd.S_far (p := ⟨gb220, 0, none⟩) (Kd.S_types HO216.out BK220.out (by decide)) (fun _ hk => hk.2) (.slice Ao48 t221.length co48)) (fun _ hk => hk.2) (.bool t224)) (fun _ h_ => h_.1))) (Kd.R_base ho0) hb); replace HO223 := aS (Kd.S_elder' (by (with_reducible repeat (first | apply sA | apply sN | apply sD)); exact (Kd.S_mono (Kd.S_far (p := ⟨gb220, 1, none⟩) (Kd.S_far (p := ⟨gb220, 0, none⟩) (Kd.S_types HO223.out BK220.out (by decide)) (fun _ hk => hk.2) (.slice Ao48 t221.length co48)) (fun _ hk => hk.2) (.bool t224)) (fun _ h_ => h_.1))) (Kd.R_base ho0) hb); have HO229 := aS (Kd.R_lower ho0 (q06 (z6 HB.out GE220.out))); replace BK220 := aS (q02 (g := gb220) (o := .cells #[.slice Ao48 t221.length co48, .bool t224] 24 (0, 0)) (by (with_reducible repeat (first | refine kN ?_ _ | refine kD ?_ | refine kA ?_ _)); refine q0g (cs := #[.slice Ao48 t221.length co48, .bool t217]) ?_ 1 _ rfl; (with_reducible repeat (first | refine kN ?_ _ | refine kD ?_ | refine kA ?_ _)); refine q0g (cs := #[.slice Ao45 t214.length co45, .bool t217]) ?_ 0 _ rfl; (with_reducible repeat (first | refine kN ?_ _ | refine kD ?_ | refine kA ?_ _)); exact BK220.out) hb); replace HB := aS (q00 (z6 HB.out GE220.out) hb); (try clear hb); (try clear hb2); (try clear hk); (try clear hi); (try clear ho0)))
  go_ret
  exact ⟨by first | rfl | (simp [q04, q03] <;> rfl) | (simp [*, q04, q03] <;> rfl), by repeat (first | (with_reducible first | exact HB.out | apply bA | apply bN | apply bD | refine bS ?_ GE220.out) | exact HB.out)⟩
 case n7 =>
  obtain rfl := Option.some.inj H
  go_enter Tryd.func51, Tryd.ntmps51
  go_wp2_with (first | ((with_reducible refine q07 (f := 54) rfl ?_); refine q0j (some 9) rfl rfl Tryd.func54 (by kernel_rfl) rfl #[] rfl zc ?_; (with_reducible refine (dom_New.calls  t210 t213 _ A1.out).mono ?_); rintro e w51 ⟨v211, rfl, ho0, hb⟩; refine ⟨_, rfl, ?_⟩; have HO212 := aS (Kd.S_lower ho0 (q06 (z7 HB.out))); replace HB := aS (q00 (z7 HB.out) hb); (try clear hb); (try clear hb2); (try clear hk); (try clear hi); (try clear ho0); obtain ⟨Ao52, co52, eo52⟩ := Kd.S_slice HO212.out; subst eo52) | ((with_reducible refine q07 (f := 55) rfl ?_); refine q0j (some 12) rfl rfl Tryd.func55 (by kernel_rfl) rfl #[.agg #[.slice Ao52 t210.length co52, .bool t213], .agg #[.int .i64 4, .int .i64 0, .int .i64 0, .int .i64 0, .string (⟨#[]⟩ : ByteArray), .string (⟨#[]⟩ : ByteArray), .int .i64 2, .string (⟨#[112]⟩ : ByteArray), .slice none 0 0, .string (⟨#[]⟩ : ByteArray), .int .i64 0, .slice none 0 0]] rfl zc ?_; (refine (dom_Apply.calls k _ _ t210 t213 4 0 0 0 (⟨#[]⟩ : ByteArray) (⟨#[]⟩ : ByteArray) 2 (⟨#[112]⟩ : ByteArray) _ _ ([] : List (S122)) (⟨#[]⟩ : ByteArray) 0 _ _ ([] : List Int) t214 t217 t218 t219 _ ?side1 ?side2 ?side3 ?side4 ?side5 ?side6 A2.out).mono ?_); (case side1 => repeat (first | exact (Kd.S_reads' HO212.out).2.2 | (with_reducible refine cA ?_ _) | (with_reducible refine cN ?_ _) | (with_reducible refine cD ?_))); (case side2 => exact (Kd.S_reads' HO212.out).2.1); (case side3 => exact Kd.C_nil _ _); (case side4 => exact Nat.le_refl _); (case side5 => exact Kd.C_nil _ _); (case side6 => exact Nat.le_refl _); rintro e w53 ⟨v215, rfl, ho0, hb⟩; refine ⟨_, rfl, ?_⟩; have n0_ := aS (Kd.S_elder' (zg HO212.out) (Kd.S_base ho0) hb); have n1_ := aS (Kd.S_lower (Kd.S_new' ho0 (Kd.S_lt (zg HO212.out))) (q06 (z7 HB.out))); have n2_ := aS (q00 (z7 HB.out) hb); clear HO212; clear HB; have HO212 := n0_; have HO216 := n1_; have HB := n2_; clear n0_ n1_ n2_; (try clear hb); (try clear hb2); (try clear hk); (try clear hi); (try clear ho0)) | ((with_reducible refine q05 (N := 1) rfl ?_); (try (refine q0i (by rfl) ?_; dsimp only)); refine q0p ?hg (N := 1) ?hd (cs := #[.slice none 0 0, .bool false]) (t := 24) ?hr ?_; (case hd => rfl); (case hg => rfl); (case hr => first | (go_simp; done) | (go_simp; rfl)); intro gb220 hg w54 hbox hb; replace HO212 := aS (Kd.S_below (zg HO212.out) hb); replace HO216 := aS (Kd.S_below (zg HO216.out) hb); have BK220 := aS (hbox); have GW220 := aS ((by rw [hg]; exact (q06 (z7 HB.out)) : w.heap.size ≤ gb220)); have GE220 := aS ((by rw [hg]; exact (q06 (z7 HB.out)) : w.heap.size ≤ gb220)); replace HB := aS (q00 (z7 HB.out) hb); clear hb hbox hg; obtain ⟨Ao55, co55, eo55⟩ := Kd.S_slice HO216.out; subst eo55; obtain ⟨hczL_0, hczL_1, hfzL_0, hfzL_1⟩ := bk2 BK220.out) | ((with_reducible refine q07 (f := 55) rfl ?_); refine q0j (some 20) rfl rfl Tryd.func55 (by kernel_rfl) rfl #[.agg #[.slice Ao55 t214.length co55, .bool t217], .agg #[.int .i64 5, .int .i64 0, .int .i64 t218, .int .i64 (-1), .string (⟨#[]⟩ : ByteArray), .string (⟨#[]⟩ : ByteArray), .int .i64 0, .string (⟨#[]⟩ : ByteArray), .slice none 0 0, .string (⟨#[]⟩ : ByteArray), .int .i64 0, .slice none 0 0]] rfl zc ?_; (refine (dom_Apply.calls k _ _ t214 t217 5 0 t218 (-1) (⟨#[]⟩ : ByteArray) (⟨#[]⟩ : ByteArray) 0 (⟨#[]⟩ : ByteArray) _ _ ([] : List (S122)) (⟨#[]⟩ : ByteArray) 0 _ _ ([] : List Int) t221 t224 t225 t226 _ ?side1 ?side2 ?side3 ?side4 ?side5 ?side6 A3.out).mono ?_); (case side1 => refine (Kd.S_reads' (e := 43) (base := w.heap.size) (ok := fun k_ => (True ∧ some k_ ≠ (.slice Ao52 t210.length co52 : Value).ownBlock)) (n := t214.length) (c := co55) ?_).2.2; exact (by (with_reducible repeat (first | apply sA | apply sN | apply sD)); exact (Kd.S_mono (Kd.S_far (p := ⟨gb220, 1, none⟩) (Kd.S_far (p := ⟨gb220, 0, none⟩) (Kd.S_types HO216.out BK220.out (by decide)) (fun _ hk => hk.2) (.slice Ao55 t214.length co55)) (fun _ hk => hk.2) (.bool t217)) (fun _ h_ => h_.1)))); (case side2 => exact (Kd.S_reads' HO216.out).2.1); (case side3 => exact Kd.C_nil _ _); (case side4 => exact Nat.le_refl _); (case side5 => exact Kd.C_nil _ _); (case side6 => exact Nat.le_refl _); rintro e w57 ⟨v222, rfl, ho0, hb⟩; refine ⟨_, rfl, ?_⟩; have n0_ := aS (Kd.S_elder' (by (with_reducible repeat (first | apply sA | apply sN | apply sD)); exact (Kd.S_mono (Kd.S_far (p := ⟨gb220, 1, none⟩) (Kd.S_far (p := ⟨gb220, 0, none⟩) (Kd.S_types HO212.out BK220.out (by decide)) (fun _ hk => hk.2) (.slice Ao55 t214.length co55)) (fun _ hk => hk.2) (.bool t217)) (fun _ h_ => h_.1))) (Kd.S_base ho0) hb); have n1_ := aS (Kd.S_elder' (by (with_reducible repeat (first | apply sA | apply sN | apply sD)); exact (Kd.S_mono (Kd.S_far (p := ⟨gb220, 1, none⟩) (Kd.S_far (p := ⟨gb220, 0, none⟩) (Kd.S_types HO216.out BK220.out (by decide)) (fun _ hk => hk.2) (.slice Ao55 t214.length co55)) (fun _ hk => hk.2) (.bool t217)) (fun _ h_ => h_.1))) (Kd.S_base ho0) hb); have n2_ := aS (Kd.S_lower (Kd.S_new' (Kd.S_new' ho0 (Kd.S_lt (by (with_reducible repeat (first | apply sA | apply sN | apply sD)); exact (Kd.S_mono (Kd.S_far (p := ⟨gb220, 1, none⟩) (Kd.S_far (p := ⟨gb220, 0, none⟩) (Kd.S_types HO212.out BK220.out (by decide)) (fun _ hk => hk.2) (.slice Ao55 t214.length co55)) (fun _ hk => hk.2) (.bool t217)) (fun _ h_ => h_.1))))) (Kd.S_lt (by (with_reducible repeat (first | apply sA | apply sN | apply sD)); exact (Kd.S_mono (Kd.S_far (p := ⟨gb220, 1, none⟩) (Kd.S_far (p := ⟨gb220, 0, none⟩) (Kd.S_types HO216.out BK220.out (by decide)) (fun _ hk => hk.2) (.slice Ao55 t214.length co55)) (fun _ hk => hk.2) (.bool t217)) (fun _ h_ => h_.1))))) (q06 (z6 HB.out GE220.out))); have n3_ := aS (q02 (g := gb220) (o := .cells #[.slice Ao55 t214.length co55, .bool t217] 24 (0, 0)) (by (with_reducible repeat (first | refine kN ?_ _ | refine kD ?_ | refine kA ?_ _)); refine q0g (cs := #[.slice Ao55 t214.length co55, .bool false]) ?_ 1 _ rfl; (with_reducible repeat (first | refine kN ?_ _ | refine kD ?_ | refine kA ?_ _)); refine q0g (cs := #[.slice none 0 0, .bool false]) ?_ 0 _ rfl; (with_reducible repeat (first | refine kN ?_ _ | refine kD ?_ | refine kA ?_ _)); exact BK220.out) hb); have n4_ := aS (q00 (z6 HB.out GE220.out) hb); clear HO212; clear HO216; clear BK220; clear HB; have HO212 := n0_; have HO216 := n1_; have HO223 := n2_; have BK220 := n3_; have HB := n4_; clear n0_ n1_ n2_ n3_ n4_; (try clear hb); (try clear hb2); (try clear hk); (try clear hi); (try clear ho0); obtain ⟨Ao58, co58, eo58⟩ := Kd.S_slice HO223.out; subst eo58; obtain ⟨hczL_0, hczL_1, hfzL_0, hfzL_1⟩ := bk2 BK220.out) | ((with_reducible refine q07 (f := 59) rfl ?_); refine q0j (some 26) rfl rfl Tryd.func59 (by kernel_rfl) rfl #[.agg #[.slice Ao58 t221.length co58, .bool t224]] rfl zc ?_; (with_reducible refine (dom_Order.calls k _ _ t221 t224 t227 t230 _ ?side1 ?side2 A4.out).mono ?_); (case side1 => refine (Kd.S_reads' (e := 43) (base := w.heap.size) (ok := fun k_ => ((True ∧ some k_ ≠ (.slice Ao52 t210.length co52 : Value).ownBlock) ∧ some k_ ≠ (.slice Ao55 t214.length co55 : Value).ownBlock)) (n := t221.length) (c := co58) ?_).2.2; exact (by (with_reducible repeat (first | apply sA | apply sN | apply sD)); exact (Kd.S_mono (Kd.S_far (p := ⟨gb220, 1, none⟩) (Kd.S_far (p := ⟨gb220, 0, none⟩) (Kd.S_types HO223.out BK220.out (by decide)) (fun _ hk => hk.2) (.slice Ao58 t221.length co58)) (fun _ hk => hk.2) (.bool t224)) (fun _ h_ => h_.1)))); (case side2 => exact (Kd.S_reads' HO223.out).2.1); rintro e w60 ⟨v228, rfl, ho0, hb⟩; refine ⟨_, rfl, ?_⟩; replace HO212 := aS (Kd.S_elder' (by (with_reducible repeat (first | apply sA | apply sN | apply sD)); exact (Kd.S_mono (Kd.S_far (p := ⟨gb220, 1, none⟩) (Kd.S_far (p := ⟨gb220, 0, none⟩) (Kd.S_types HO212.out BK220.out (by decide)) (fun _ hk => hk.2) (.slice Ao58 t221.length co58)) (fun _ hk => hk.2) (.bool t224)) (fun _ h_ => h_.1))) (Kd.R_base ho0) hb); replace HO216 := aS (Kd.S_elder' (by (with_reducible repeat (first | apply sA | apply sN | apply sD)); exact (Kd.S_mono (Kd.S_far (p := ⟨gb220, 1, none⟩) (Kd.S_far (p := ⟨gb220, 0, none⟩) (Kd.S_types HO216.out BK220.out (by decide)) (fun _ hk => hk.2) (.slice Ao58 t221.length co58)) (fun _ hk => hk.2) (.bool t224)) (fun _ h_ => h_.1))) (Kd.R_base ho0) hb); replace HO223 := aS (Kd.S_elder' (by (with_reducible repeat (first | apply sA | apply sN | apply sD)); exact (Kd.S_mono (Kd.S_far (p := ⟨gb220, 1, none⟩) (Kd.S_far (p := ⟨gb220, 0, none⟩) (Kd.S_types HO223.out BK220.out (by decide)) (fun _ hk => hk.2) (.slice Ao58 t221.length co58)) (fun _ hk => hk.2) (.bool t224)) (fun _ h_ => h_.1))) (Kd.R_base ho0) hb); have HO229 := aS (Kd.R_lower ho0 (q06 (z6 HB.out GE220.out))); replace BK220 := aS (q02 (g := gb220) (o := .cells #[.slice Ao58 t221.length co58, .bool t224] 24 (0, 0)) (by (with_reducible repeat (first | refine kN ?_ _ | refine kD ?_ | refine kA ?_ _)); refine q0g (cs := #[.slice Ao58 t221.length co58, .bool t217]) ?_ 1 _ rfl; (with_reducible repeat (first | refine kN ?_ _ | refine kD ?_ | refine kA ?_ _)); refine q0g (cs := #[.slice Ao55 t214.length co55, .bool t217]) ?_ 0 _ rfl; (with_reducible repeat (first | refine kN ?_ _ | refine kD ?_ | refine kA ?_ _)); exact BK220.out) hb); replace HB := aS (q00 (z6 HB.out GE220.out) hb); (try clear hb); (try clear hb2); (try clear hk); (try clear hi); (try clear ho0)))
  go_ret
  exact ⟨by first | rfl | (simp [q04, q03] <;> rfl) | (simp [*, q04, q03] <;> rfl), by repeat (first | (with_reducible first | exact HB.out | apply bA | apply bN | apply bD | refine bS ?_ GE220.out) | exact HB.out)⟩
 case n6 =>
  obtain rfl := Option.some.inj H
  go_enter Tryd.func51, Tryd.ntmps51
  go_wp2_with (first | ((with_reducible refine q07 (f := 54) rfl ?_); refine q0j (some 9) rfl rfl Tryd.func54 (by kernel_rfl) rfl #[] rfl zc ?_; (with_reducible refine (dom_New.calls  t210 t213 _ A1.out).mono ?_); rintro e w61 ⟨v211, rfl, ho0, hb⟩; refine ⟨_, rfl, ?_⟩; have HO212 := aS (Kd.S_lower ho0 (q06 (z7 HB.out))); replace HB := aS (q00 (z7 HB.out) hb); (try clear hb); (try clear hb2); (try clear hk); (try clear hi); (try clear ho0); obtain ⟨Ao62, co62, eo62⟩ := Kd.S_slice HO212.out; subst eo62) | ((with_reducible refine q07 (f := 55) rfl ?_); refine q0j (some 12) rfl rfl Tryd.func55 (by kernel_rfl) rfl #[.agg #[.slice Ao62 t210.length co62, .bool t213], .agg #[.int .i64 4, .int .i64 0, .int .i64 0, .int .i64 0, .string (⟨#[]⟩ : ByteArray), .string (⟨#[]⟩ : ByteArray), .int .i64 2, .string (⟨#[112]⟩ : ByteArray), .slice none 0 0, .string (⟨#[]⟩ : ByteArray), .int .i64 0, .slice none 0 0]] rfl zc ?_; (refine (dom_Apply.calls k _ _ t210 t213 4 0 0 0 (⟨#[]⟩ : ByteArray) (⟨#[]⟩ : ByteArray) 2 (⟨#[112]⟩ : ByteArray) _ _ ([] : List (S122)) (⟨#[]⟩ : ByteArray) 0 _ _ ([] : List Int) t214 t217 t218 t219 _ ?side1 ?side2 ?side3 ?side4 ?side5 ?side6 A2.out).mono ?_); (case side1 => repeat (first | exact (Kd.S_reads' HO212.out).2.2 | (with_reducible refine cA ?_ _) | (with_reducible refine cN ?_ _) | (with_reducible refine cD ?_))); (case side2 => exact (Kd.S_reads' HO212.out).2.1); (case side3 => exact Kd.C_nil _ _); (case side4 => exact Nat.le_refl _); (case side5 => exact Kd.C_nil _ _); (case side6 => exact Nat.le_refl _); rintro e w63 ⟨v215, rfl, ho0, hb⟩; refine ⟨_, rfl, ?_⟩; have n0_ := aS (Kd.S_elder' (zg HO212.out) (Kd.S_base ho0) hb); have n1_ := aS (Kd.S_lower (Kd.S_new' ho0 (Kd.S_lt (zg HO212.out))) (q06 (z7 HB.out))); have n2_ := aS (q00 (z7 HB.out) hb); clear HO212; clear HB; have HO212 := n0_; have HO216 := n1_; have HB := n2_; clear n0_ n1_ n2_; (try clear hb); (try clear hb2); (try clear hk); (try clear hi); (try clear ho0)) | ((with_reducible refine q05 (N := 1) rfl ?_); (try (refine q0i (by rfl) ?_; dsimp only)); refine q0p ?hg (N := 1) ?hd (cs := #[.slice none 0 0, .bool false]) (t := 24) ?hr ?_; (case hd => rfl); (case hg => rfl); (case hr => first | (go_simp; done) | (go_simp; rfl)); intro gb220 hg w64 hbox hb; replace HO212 := aS (Kd.S_below (zg HO212.out) hb); replace HO216 := aS (Kd.S_below (zg HO216.out) hb); have BK220 := aS (hbox); have GW220 := aS ((by rw [hg]; exact (q06 (z7 HB.out)) : w.heap.size ≤ gb220)); have GE220 := aS ((by rw [hg]; exact (q06 (z7 HB.out)) : w.heap.size ≤ gb220)); replace HB := aS (q00 (z7 HB.out) hb); clear hb hbox hg; obtain ⟨Ao65, co65, eo65⟩ := Kd.S_slice HO216.out; subst eo65; obtain ⟨hczL_0, hczL_1, hfzL_0, hfzL_1⟩ := bk2 BK220.out) | ((with_reducible refine q07 (f := 55) rfl ?_); refine q0j (some 20) rfl rfl Tryd.func55 (by kernel_rfl) rfl #[.agg #[.slice Ao65 t214.length co65, .bool t217], .agg #[.int .i64 5, .int .i64 0, .int .i64 t218, .int .i64 (-1), .string (⟨#[]⟩ : ByteArray), .string (⟨#[]⟩ : ByteArray), .int .i64 0, .string (⟨#[]⟩ : ByteArray), .slice none 0 0, .string (⟨#[]⟩ : ByteArray), .int .i64 0, .slice none 0 0]] rfl zc ?_; (refine (dom_Apply.calls k _ _ t214 t217 5 0 t218 (-1) (⟨#[]⟩ : ByteArray) (⟨#[]⟩ : ByteArray) 0 (⟨#[]⟩ : ByteArray) _ _ ([] : List (S122)) (⟨#[]⟩ : ByteArray) 0 _ _ ([] : List Int) t221 t224 t225 t226 _ ?side1 ?side2 ?side3 ?side4 ?side5 ?side6 A3.out).mono ?_); (case side1 => refine (Kd.S_reads' (e := 43) (base := w.heap.size) (ok := fun k_ => (True ∧ some k_ ≠ (.slice Ao62 t210.length co62 : Value).ownBlock)) (n := t214.length) (c := co65) ?_).2.2; exact (by (with_reducible repeat (first | apply sA | apply sN | apply sD)); exact (Kd.S_mono (Kd.S_far (p := ⟨gb220, 1, none⟩) (Kd.S_far (p := ⟨gb220, 0, none⟩) (Kd.S_types HO216.out BK220.out (by decide)) (fun _ hk => hk.2) (.slice Ao65 t214.length co65)) (fun _ hk => hk.2) (.bool t217)) (fun _ h_ => h_.1)))); (case side2 => exact (Kd.S_reads' HO216.out).2.1); (case side3 => exact Kd.C_nil _ _); (case side4 => exact Nat.le_refl _); (case side5 => exact Kd.C_nil _ _); (case side6 => exact Nat.le_refl _); rintro e w67 ⟨v222, rfl, ho0, hb⟩; refine ⟨_, rfl, ?_⟩; have n0_ := aS (Kd.S_elder' (by (with_reducible repeat (first | apply sA | apply sN | apply sD)); exact (Kd.S_mono (Kd.S_far (p := ⟨gb220, 1, none⟩) (Kd.S_far (p := ⟨gb220, 0, none⟩) (Kd.S_types HO212.out BK220.out (by decide)) (fun _ hk => hk.2) (.slice Ao65 t214.length co65)) (fun _ hk => hk.2) (.bool t217)) (fun _ h_ => h_.1))) (Kd.S_base ho0) hb); have n1_ := aS (Kd.S_elder' (by (with_reducible repeat (first | apply sA | apply sN | apply sD)); exact (Kd.S_mono (Kd.S_far (p := ⟨gb220, 1, none⟩) (Kd.S_far (p := ⟨gb220, 0, none⟩) (Kd.S_types HO216.out BK220.out (by decide)) (fun _ hk => hk.2) (.slice Ao65 t214.length co65)) (fun _ hk => hk.2) (.bool t217)) (fun _ h_ => h_.1))) (Kd.S_base ho0) hb); have n2_ := aS (Kd.S_lower (Kd.S_new' (Kd.S_new' ho0 (Kd.S_lt (by (with_reducible repeat (first | apply sA | apply sN | apply sD)); exact (Kd.S_mono (Kd.S_far (p := ⟨gb220, 1, none⟩) (Kd.S_far (p := ⟨gb220, 0, none⟩) (Kd.S_types HO212.out BK220.out (by decide)) (fun _ hk => hk.2) (.slice Ao65 t214.length co65)) (fun _ hk => hk.2) (.bool t217)) (fun _ h_ => h_.1))))) (Kd.S_lt (by (with_reducible repeat (first | apply sA | apply sN | apply sD)); exact (Kd.S_mono (Kd.S_far (p := ⟨gb220, 1, none⟩) (Kd.S_far (p := ⟨gb220, 0, none⟩) (Kd.S_types HO216.out BK220.out (by decide)) (fun _ hk => hk.2) (.slice Ao65 t214.length co65)) (fun _ hk => hk.2) (.bool t217)) (fun _ h_ => h_.1))))) (q06 (z6 HB.out GE220.out))); have n3_ := aS (q02 (g := gb220) (o := .cells #[.slice Ao65 t214.length co65, .bool t217] 24 (0, 0)) (by (with_reducible repeat (first | refine kN ?_ _ | refine kD ?_ | refine kA ?_ _)); refine q0g (cs := #[.slice Ao65 t214.length co65, .bool false]) ?_ 1 _ rfl; (with_reducible repeat (first | refine kN ?_ _ | refine kD ?_ | refine kA ?_ _)); refine q0g (cs := #[.slice none 0 0, .bool false]) ?_ 0 _ rfl; (with_reducible repeat (first | refine kN ?_ _ | refine kD ?_ | refine kA ?_ _)); exact BK220.out) hb); have n4_ := aS (q00 (z6 HB.out GE220.out) hb); clear HO212; clear HO216; clear BK220; clear HB; have HO212 := n0_; have HO216 := n1_; have HO223 := n2_; have BK220 := n3_; have HB := n4_; clear n0_ n1_ n2_ n3_ n4_; (try clear hb); (try clear hb2); (try clear hk); (try clear hi); (try clear ho0); obtain ⟨Ao68, co68, eo68⟩ := Kd.S_slice HO223.out; subst eo68; obtain ⟨hczL_0, hczL_1, hfzL_0, hfzL_1⟩ := bk2 BK220.out) | ((with_reducible refine q07 (f := 59) rfl ?_); refine q0j (some 26) rfl rfl Tryd.func59 (by kernel_rfl) rfl #[.agg #[.slice Ao68 t221.length co68, .bool t224]] rfl zc ?_; (with_reducible refine (dom_Order.calls k _ _ t221 t224 t227 t230 _ ?side1 ?side2 A4.out).mono ?_); (case side1 => refine (Kd.S_reads' (e := 43) (base := w.heap.size) (ok := fun k_ => ((True ∧ some k_ ≠ (.slice Ao62 t210.length co62 : Value).ownBlock) ∧ some k_ ≠ (.slice Ao65 t214.length co65 : Value).ownBlock)) (n := t221.length) (c := co68) ?_).2.2; exact (by (with_reducible repeat (first | apply sA | apply sN | apply sD)); exact (Kd.S_mono (Kd.S_far (p := ⟨gb220, 1, none⟩) (Kd.S_far (p := ⟨gb220, 0, none⟩) (Kd.S_types HO223.out BK220.out (by decide)) (fun _ hk => hk.2) (.slice Ao68 t221.length co68)) (fun _ hk => hk.2) (.bool t224)) (fun _ h_ => h_.1)))); (case side2 => exact (Kd.S_reads' HO223.out).2.1); rintro e w70 ⟨v228, rfl, ho0, hb⟩; refine ⟨_, rfl, ?_⟩; replace HO212 := aS (Kd.S_elder' (by (with_reducible repeat (first | apply sA | apply sN | apply sD)); exact (Kd.S_mono (Kd.S_far (p := ⟨gb220, 1, none⟩) (Kd.S_far (p := ⟨gb220, 0, none⟩) (Kd.S_types HO212.out BK220.out (by decide)) (fun _ hk => hk.2) (.slice Ao68 t221.length co68)) (fun _ hk => hk.2) (.bool t224)) (fun _ h_ => h_.1))) (Kd.R_base ho0) hb); replace HO216 := aS (Kd.S_elder' (by (with_reducible repeat (first | apply sA | apply sN | apply sD)); exact (Kd.S_mono (Kd.S_far (p := ⟨gb220, 1, none⟩) (Kd.S_far (p := ⟨gb220, 0, none⟩) (Kd.S_types HO216.out BK220.out (by decide)) (fun _ hk => hk.2) (.slice Ao68 t221.length co68)) (fun _ hk => hk.2) (.bool t224)) (fun _ h_ => h_.1))) (Kd.R_base ho0) hb); replace HO223 := aS (Kd.S_elder' (by (with_reducible repeat (first | apply sA | apply sN | apply sD)); exact (Kd.S_mono (Kd.S_far (p := ⟨gb220, 1, none⟩) (Kd.S_far (p := ⟨gb220, 0, none⟩) (Kd.S_types HO223.out BK220.out (by decide)) (fun _ hk => hk.2) (.slice Ao68 t221.length co68)) (fun _ hk => hk.2) (.bool t224)) (fun _ h_ => h_.1))) (Kd.R_base ho0) hb); have HO229 := aS (Kd.R_lower ho0 (q06 (z6 HB.out GE220.out))); replace BK220 := aS (q02 (g := gb220) (o := .cells #[.slice Ao68 t221.length co68, .bool t224] 24 (0, 0)) (by (with_reducible repeat (first | refine kN ?_ _ | refine kD ?_ | refine kA ?_ _)); refine q0g (cs := #[.slice Ao68 t221.length co68, .bool t217]) ?_ 1 _ rfl; (with_reducible repeat (first | refine kN ?_ _ | refine kD ?_ | refine kA ?_ _)); refine q0g (cs := #[.slice Ao65 t214.length co65, .bool t217]) ?_ 0 _ rfl; (with_reducible repeat (first | refine kN ?_ _ | refine kD ?_ | refine kA ?_ _)); exact BK220.out) hb); replace HB := aS (q00 (z6 HB.out GE220.out) hb); (try clear hb); (try clear hb2); (try clear hk); (try clear hi); (try clear ho0)))
  go_ret
  exact ⟨by first | rfl | (simp [q04, q03] <;> rfl) | (simp [*, q04, q03] <;> rfl), by repeat (first | (with_reducible first | exact HB.out | apply bA | apply bN | apply bD | refine bS ?_ GE220.out) | exact HB.out)⟩
 case n5 =>
  obtain rfl := Option.some.inj H
  go_enter Tryd.func51, Tryd.ntmps51
  go_wp2_with (first | ((with_reducible refine q07 (f := 54) rfl ?_); refine q0j (some 9) rfl rfl Tryd.func54 (by kernel_rfl) rfl #[] rfl zc ?_; (with_reducible refine (dom_New.calls  t210 t213 _ A1.out).mono ?_); rintro e w71 ⟨v211, rfl, ho0, hb⟩; refine ⟨_, rfl, ?_⟩; have HO212 := aS (Kd.S_lower ho0 (q06 (z7 HB.out))); replace HB := aS (q00 (z7 HB.out) hb); (try clear hb); (try clear hb2); (try clear hk); (try clear hi); (try clear ho0); obtain ⟨Ao72, co72, eo72⟩ := Kd.S_slice HO212.out; subst eo72) | ((with_reducible refine q07 (f := 55) rfl ?_); refine q0j (some 12) rfl rfl Tryd.func55 (by kernel_rfl) rfl #[.agg #[.slice Ao72 t210.length co72, .bool t213], .agg #[.int .i64 4, .int .i64 0, .int .i64 0, .int .i64 0, .string (⟨#[]⟩ : ByteArray), .string (⟨#[]⟩ : ByteArray), .int .i64 2, .string (⟨#[112]⟩ : ByteArray), .slice none 0 0, .string (⟨#[]⟩ : ByteArray), .int .i64 0, .slice none 0 0]] rfl zc ?_; (refine (dom_Apply.calls k _ _ t210 t213 4 0 0 0 (⟨#[]⟩ : ByteArray) (⟨#[]⟩ : ByteArray) 2 (⟨#[112]⟩ : ByteArray) _ _ ([] : List (S122)) (⟨#[]⟩ : ByteArray) 0 _ _ ([] : List Int) t214 t217 t218 t219 _ ?side1 ?side2 ?side3 ?side4 ?side5 ?side6 A2.out).mono ?_); (case side1 => repeat (first | exact (Kd.S_reads' HO212.out).2.2 | (with_reducible refine cA ?_ _) | (with_reducible refine cN ?_ _) | (with_reducible refine cD ?_))); (case side2 => exact (Kd.S_reads' HO212.out).2.1); (case side3 => exact Kd.C_nil _ _); (case side4 => exact Nat.le_refl _); (case side5 => exact Kd.C_nil _ _); (case side6 => exact Nat.le_refl _); rintro e w73 ⟨v215, rfl, ho0, hb⟩; refine ⟨_, rfl, ?_⟩; have n0_ := aS (Kd.S_elder' (zg HO212.out) (Kd.S_base ho0) hb); have n1_ := aS (Kd.S_lower (Kd.S_new' ho0 (Kd.S_lt (zg HO212.out))) (q06 (z7 HB.out))); have n2_ := aS (q00 (z7 HB.out) hb); clear HO212; clear HB; have HO212 := n0_; have HO216 := n1_; have HB := n2_; clear n0_ n1_ n2_; (try clear hb); (try clear hb2); (try clear hk); (try clear hi); (try clear ho0)) | ((with_reducible refine q05 (N := 1) rfl ?_); (try (refine q0i (by rfl) ?_; dsimp only)); refine q0p ?hg (N := 1) ?hd (cs := #[.slice none 0 0, .bool false]) (t := 24) ?hr ?_; (case hd => rfl); (case hg => rfl); (case hr => first | (go_simp; done) | (go_simp; rfl)); intro gb220 hg w74 hbox hb; replace HO212 := aS (Kd.S_below (zg HO212.out) hb); replace HO216 := aS (Kd.S_below (zg HO216.out) hb); have BK220 := aS (hbox); have GW220 := aS ((by rw [hg]; exact (q06 (z7 HB.out)) : w.heap.size ≤ gb220)); have GE220 := aS ((by rw [hg]; exact (q06 (z7 HB.out)) : w.heap.size ≤ gb220)); replace HB := aS (q00 (z7 HB.out) hb); clear hb hbox hg; obtain ⟨Ao75, co75, eo75⟩ := Kd.S_slice HO216.out; subst eo75; obtain ⟨hczL_0, hczL_1, hfzL_0, hfzL_1⟩ := bk2 BK220.out) | ((with_reducible refine q07 (f := 55) rfl ?_); refine q0j (some 20) rfl rfl Tryd.func55 (by kernel_rfl) rfl #[.agg #[.slice Ao75 t214.length co75, .bool t217], .agg #[.int .i64 5, .int .i64 0, .int .i64 t218, .int .i64 (-1), .string (⟨#[]⟩ : ByteArray), .string (⟨#[]⟩ : ByteArray), .int .i64 0, .string (⟨#[]⟩ : ByteArray), .slice none 0 0, .string (⟨#[]⟩ : ByteArray), .int .i64 0, .slice none 0 0]] rfl zc ?_; (refine (dom_Apply.calls k _ _ t214 t217 5 0 t218 (-1) (⟨#[]⟩ : ByteArray) (⟨#[]⟩ : ByteArray) 0 (⟨#[]⟩ : ByteArray) _ _ ([] : List (S122)) (⟨#[]⟩ : ByteArray) 0 _ _ ([] : List Int) t221 t224 t225 t226 _ ?side1 ?side2 ?side3 ?side4 ?side5 ?side6 A3.out).mono ?_); (case side1 => refine (Kd.S_reads' (e := 43) (base := w.heap.size) (ok := fun k_ => (True ∧ some k_ ≠ (.slice Ao72 t210.length co72 : Value).ownBlock)) (n := t214.length) (c := co75) ?_).2.2; exact (by (with_reducible repeat (first | apply sA | apply sN | apply sD)); exact (Kd.S_mono (Kd.S_far (p := ⟨gb220, 1, none⟩) (Kd.S_far (p := ⟨gb220, 0, none⟩) (Kd.S_types HO216.out BK220.out (by decide)) (fun _ hk => hk.2) (.slice Ao75 t214.length co75)) (fun _ hk => hk.2) (.bool t217)) (fun _ h_ => h_.1)))); (case side2 => exact (Kd.S_reads' HO216.out).2.1); (case side3 => exact Kd.C_nil _ _); (case side4 => exact Nat.le_refl _); (case side5 => exact Kd.C_nil _ _); (case side6 => exact Nat.le_refl _); rintro e w77 ⟨v222, rfl, ho0, hb⟩; refine ⟨_, rfl, ?_⟩; have n0_ := aS (Kd.S_elder' (by (with_reducible repeat (first | apply sA | apply sN | apply sD)); exact (Kd.S_mono (Kd.S_far (p := ⟨gb220, 1, none⟩) (Kd.S_far (p := ⟨gb220, 0, none⟩) (Kd.S_types HO212.out BK220.out (by decide)) (fun _ hk => hk.2) (.slice Ao75 t214.length co75)) (fun _ hk => hk.2) (.bool t217)) (fun _ h_ => h_.1))) (Kd.S_base ho0) hb); have n1_ := aS (Kd.S_elder' (by (with_reducible repeat (first | apply sA | apply sN | apply sD)); exact (Kd.S_mono (Kd.S_far (p := ⟨gb220, 1, none⟩) (Kd.S_far (p := ⟨gb220, 0, none⟩) (Kd.S_types HO216.out BK220.out (by decide)) (fun _ hk => hk.2) (.slice Ao75 t214.length co75)) (fun _ hk => hk.2) (.bool t217)) (fun _ h_ => h_.1))) (Kd.S_base ho0) hb); have n2_ := aS (Kd.S_lower (Kd.S_new' (Kd.S_new' ho0 (Kd.S_lt (by (with_reducible repeat (first | apply sA | apply sN | apply sD)); exact (Kd.S_mono (Kd.S_far (p := ⟨gb220, 1, none⟩) (Kd.S_far (p := ⟨gb220, 0, none⟩) (Kd.S_types HO212.out BK220.out (by decide)) (fun _ hk => hk.2) (.slice Ao75 t214.length co75)) (fun _ hk => hk.2) (.bool t217)) (fun _ h_ => h_.1))))) (Kd.S_lt (by (with_reducible repeat (first | apply sA | apply sN | apply sD)); exact (Kd.S_mono (Kd.S_far (p := ⟨gb220, 1, none⟩) (Kd.S_far (p := ⟨gb220, 0, none⟩) (Kd.S_types HO216.out BK220.out (by decide)) (fun _ hk => hk.2) (.slice Ao75 t214.length co75)) (fun _ hk => hk.2) (.bool t217)) (fun _ h_ => h_.1))))) (q06 (z6 HB.out GE220.out))); have n3_ := aS (q02 (g := gb220) (o := .cells #[.slice Ao75 t214.length co75, .bool t217] 24 (0, 0)) (by (with_reducible repeat (first | refine kN ?_ _ | refine kD ?_ | refine kA ?_ _)); refine q0g (cs := #[.slice Ao75 t214.length co75, .bool false]) ?_ 1 _ rfl; (with_reducible repeat (first | refine kN ?_ _ | refine kD ?_ | refine kA ?_ _)); refine q0g (cs := #[.slice none 0 0, .bool false]) ?_ 0 _ rfl; (with_reducible repeat (first | refine kN ?_ _ | refine kD ?_ | refine kA ?_ _)); exact BK220.out) hb); have n4_ := aS (q00 (z6 HB.out GE220.out) hb); clear HO212; clear HO216; clear BK220; clear HB; have HO212 := n0_; have HO216 := n1_; have HO223 := n2_; have BK220 := n3_; have HB := n4_; clear n0_ n1_ n2_ n3_ n4_; (try clear hb); (try clear hb2); (try clear hk); (try clear hi); (try clear ho0); obtain ⟨Ao78, co78, eo78⟩ := Kd.S_slice HO223.out; subst eo78; obtain ⟨hczL_0, hczL_1, hfzL_0, hfzL_1⟩ := bk2 BK220.out) | ((with_reducible refine q07 (f := 59) rfl ?_); refine q0j (some 26) rfl rfl Tryd.func59 (by kernel_rfl) rfl #[.agg #[.slice Ao78 t221.length co78, .bool t224]] rfl zc ?_; (with_reducible refine (dom_Order.calls k _ _ t221 t224 t227 t230 _ ?side1 ?side2 A4.out).mono ?_); (case side1 => refine (Kd.S_reads' (e := 43) (base := w.heap.size) (ok := fun k_ => ((True ∧ some k_ ≠ (.slice Ao72 t210.length co72 : Value).ownBlock) ∧ some k_ ≠ (.slice Ao75 t214.length co75 : Value).ownBlock)) (n := t221.length) (c := co78) ?_).2.2; exact (by (with_reducible repeat (first | apply sA | apply sN | apply sD)); exact (Kd.S_mono (Kd.S_far (p := ⟨gb220, 1, none⟩) (Kd.S_far (p := ⟨gb220, 0, none⟩) (Kd.S_types HO223.out BK220.out (by decide)) (fun _ hk => hk.2) (.slice Ao78 t221.length co78)) (fun _ hk => hk.2) (.bool t224)) (fun _ h_ => h_.1)))); (case side2 => exact (Kd.S_reads' HO223.out).2.1); rintro e w80 ⟨v228, rfl, ho0, hb⟩; refine ⟨_, rfl, ?_⟩; replace HO212 := aS (Kd.S_elder' (by (with_reducible repeat (first | apply sA | apply sN | apply sD)); exact (Kd.S_mono (Kd.S_far (p := ⟨gb220, 1, none⟩) (Kd.S_far (p := ⟨gb220, 0, none⟩) (Kd.S_types HO212.out BK220.out (by decide)) (fun _ hk => hk.2) (.slice Ao78 t221.length co78)) (fun _ hk => hk.2) (.bool t224)) (fun _ h_ => h_.1))) (Kd.R_base ho0) hb); replace HO216 := aS (Kd.S_elder' (by (with_reducible repeat (first | apply sA | apply sN | apply sD)); exact (Kd.S_mono (Kd.S_far (p := ⟨gb220, 1, none⟩) (Kd.S_far (p := ⟨gb220, 0, none⟩) (Kd.S_types HO216.out BK220.out (by decide)) (fun _ hk => hk.2) (.slice Ao78 t221.length co78)) (fun _ hk => hk.2) (.bool t224)) (fun _ h_ => h_.1))) (Kd.R_base ho0) hb); replace HO223 := aS (Kd.S_elder' (by (with_reducible repeat (first | apply sA | apply sN | apply sD)); exact (Kd.S_mono (Kd.S_far (p := ⟨gb220, 1, none⟩) (Kd.S_far (p := ⟨gb220, 0, none⟩) (Kd.S_types HO223.out BK220.out (by decide)) (fun _ hk => hk.2) (.slice Ao78 t221.length co78)) (fun _ hk => hk.2) (.bool t224)) (fun _ h_ => h_.1))) (Kd.R_base ho0) hb); have HO229 := aS (Kd.R_lower ho0 (q06 (z6 HB.out GE220.out))); replace BK220 := aS (q02 (g := gb220) (o := .cells #[.slice Ao78 t221.length co78, .bool t224] 24 (0, 0)) (by (with_reducible repeat (first | refine kN ?_ _ | refine kD ?_ | refine kA ?_ _)); refine q0g (cs := #[.slice Ao78 t221.length co78, .bool t217]) ?_ 1 _ rfl; (with_reducible repeat (first | refine kN ?_ _ | refine kD ?_ | refine kA ?_ _)); refine q0g (cs := #[.slice Ao75 t214.length co75, .bool t217]) ?_ 0 _ rfl; (with_reducible repeat (first | refine kN ?_ _ | refine kD ?_ | refine kA ?_ _)); exact BK220.out) hb); replace HB := aS (q00 (z6 HB.out GE220.out) hb); (try clear hb); (try clear hb2); (try clear hk); (try clear hi); (try clear ho0)))
  go_ret
  exact ⟨by first | rfl | (simp [q04, q03] <;> rfl) | (simp [*, q04, q03] <;> rfl), by repeat (first | (with_reducible first | exact HB.out | apply bA | apply bN | apply bD | refine bS ?_ GE220.out) | exact HB.out)⟩
def clerestoryref1_SameAttrs.l0 : Nat → List (S122) → List (S122) → Int → Option (Bool)
 | 0, _, _, _ => none
 | k + 1, x0, x1, x5 => if x5 < (x0.length : Int) then (if 0 ≤ x5 then (if x5 < (x1.length : Int) then (if (!((((q0a x0 x5).f0).toList) == (((q0a x1 x5).f0).toList)) || (!((((q0a x0 x5).f1).toList) == (((q0a x1 x5).f1).toList)))) = true then (some false) else (clerestoryref1_SameAttrs.l0 k x0 x1 (wrap64 (x5 + 1)))) else (none)) else (none)) else (some true)
def clerestoryref1_SameAttrs.f (k : Nat) (l0 : List (S122)) (l1 : List (S122)) : Option (Bool) := if (l0.length : Int) = (l1.length : Int) then (clerestoryref1_SameAttrs.l0 k l0 l1 0) else (some false)
theorem clerestoryref1_SameAttrs.mono_l : ∀ k, (∀ y0 y1 y2, LeO (clerestoryref1_SameAttrs.l0 k y0 y1 y2) (clerestoryref1_SameAttrs.l0 (k + 1) y0 y1 y2))
 | 0 => fun _ _ _ r h => by simp [clerestoryref1_SameAttrs.l0] at h
 | k + 1 => by
  have ih0 := clerestoryref1_SameAttrs.mono_l k
  ·intro y0 y1 y2
   unfold clerestoryref1_SameAttrs.l0
   repeat' first | with_reducible first | apply ih0 | exact LeO.refl _ | exact LeO.none _ | refine LeO.ite ?_ ?_ | refine LeO.bind ?_ (fun _ => ?_) | (first | apply ih0 | exact LeO.none _ | refine LeO.ite ?_ ?_ | refine LeO.bind ?_ (fun _ => ?_))
theorem clerestoryref1_SameAttrs.mono : ∀ a0 a1 k, LeO (clerestoryref1_SameAttrs.f k a0 a1) (clerestoryref1_SameAttrs.f (k + 1) a0 a1) := by
 intro a0 a1 k
 have ih0 := clerestoryref1_SameAttrs.mono_l k
 unfold clerestoryref1_SameAttrs.f
 repeat' first | with_reducible first | apply ih0 | exact LeO.refl _ | exact LeO.none _ | refine LeO.ite ?_ ?_ | refine LeO.bind ?_ (fun _ => ?_) | (first | apply ih0 | exact LeO.none _ | refine LeO.ite ?_ ?_ | refine LeO.bind ?_ (fun _ => ?_))
set_option maxHeartbeats 8000000 in
set_option maxRecDepth 100000 in
theorem clerestoryref1_SameAttrs.calls (k : Nat) (A0 : Option Addr) (c0 : Nat) (l0 : List (S122)) (A1 : Option Addr) (c1 : Nat) (l1 : List (S122)) (r : Bool) (w : World) (hr0 : Kd.C k122 w A0 l0.length l0) (hc0 : l0.length ≤ c0) (hr1 : Kd.C k122 w A1 l1.length l1) (hc1 : l1.length ≤ c1) (h : clerestoryref1_SameAttrs.f k l0 l1 = some r) :
 Calls Tryd.prog 138 #[.slice A0 l0.length c0, .slice A1 l1.length c1] w fun e w' => e = .returned (.bool r) ∧ Drawn0 w w' := by
 have hu122 := Tryd.underlying122
 have HR0 := aS hr0
 have HC0 := aS hc0
 clear hr0 hc0
 have HR1 := aS hr1
 have HC1 := aS hc1
 clear hr1 hc1
 have H : (if (l0.length : Int) = (l1.length : Int) then (clerestoryref1_SameAttrs.l0 k l0 l1 0) else (some false)) = some r := h
 clear h
 by_cases c3 : (l0.length : Int) = (l1.length : Int)
 ·rw [if_pos c3] at H
  have c3b0 : ((l0.length : Int) == (l1.length : Int)) = true := beq_iff_eq.mpr c3
  have c3b1 : ((l0.length : Int) != (l1.length : Int)) = false := bne_eq_false_iff_eq.mpr c3
  have c3b2 : (l0.length == l1.length) = true := by first | simpa using c3 | (simp at c3 ⊢; omega)
  clear c3
  have H' := aS H
  clear H
  go_enter Tryd.func138, Tryd.ntmps138
  go_wp2
  repeat (go_quiet (fail); try go_wp2)
  go_loopg [5] k (fun kq v5 w' => ∃ (x5_1 : Int), v5 = .int .i64 x5_1 ∧ Aside0 (clerestoryref1_SameAttrs.l0 kq l0 l1 x5_1 = some r) ∧ Aside0 (kq ≤ k) ∧ Drawn0 w w')
  case atStart => exact ⟨(0), zi, H', ⟨Nat.le_refl _⟩, by repeat (first | exact Drawn0.refl _ | apply Drawn0.step)⟩
  case round =>
   clear H'
   try clear c1
   try clear p2
   try clear c3
   try clear c3b0
   try clear c3b1
   try clear c3b2
   obtain ⟨x5_1, rfl, HA, HK1, ⟨m1, rfl⟩⟩ := hrel
   cases gk with
   | zero => exact absurd HA.out (by simp [clerestoryref1_SameAttrs.l0])
   | succ k1 =>
    have H := HA.out
    clear HA
    simp only [clerestoryref1_SameAttrs.l0] at H
    by_cases c4 : x5_1 < (l0.length : Int)
    ·rw [if_pos c4] at H
     have c4b0 : decide (x5_1 < (l0.length : Int)) = true := decide_eq_true c4
     clear c4
     by_cases c5 : 0 ≤ x5_1
     ·rw [if_pos c5] at H
      have c5b0 : decide (0 ≤ x5_1) = true := decide_eq_true c5
      clear c5
      by_cases c6 : x5_1 < (l1.length : Int)
      ·rw [if_pos c6] at H
       have c6b0 : decide (x5_1 < (l1.length : Int)) = true := decide_eq_true c6
       clear c6
       by_cases c7 : (!((((q0a l0 x5_1).f0).toList) == (((q0a l1 x5_1).f0).toList)) || (!((((q0a l0 x5_1).f1).toList) == (((q0a l1 x5_1).f1).toList)))) = true
       ·rw [if_pos c7] at H
        have c7b0 : (!((((q0a l0 x5_1).f0).toList) == (((q0a l1 x5_1).f0).toList)) || (!((((q0a l0 x5_1).f1).toList) == (((q0a l1 x5_1).f1).toList)))) = true := c7
        clear c7
        obtain rfl := Option.some.inj H
        have p236 : 0 ≤ (x5_1 : Int) := od zb
        have q236 : x5_1 < (l0.length : Int) := od zb
        obtain ⟨ad236, e236, hx236_0, hx236_1⟩ := at_T122 HR0.out x5_1 p236 q236
        cases e236
        replace p236 := eq_true p236
        replace q236 := eq_true q236
        have p237 : 0 ≤ (x5_1 : Int) := od zb
        have q237 : x5_1 < (l1.length : Int) := od zb
        obtain ⟨ad237, e237, hx237_0, hx237_1⟩ := at_T122 HR1.out x5_1 p237 q237
        cases e237
        replace p237 := eq_true p237
        replace q237 := eq_true q237
        go_wp2
        repeat (go_quiet (fail); try go_wp2)
        go_ret
        exact ⟨by first | rfl | (simp; done) | (simp [*]; done), by repeat (first | exact Drawn0.refl _ | apply Drawn0.step)⟩
       ·rw [if_neg c7] at H
        have c7b0 : (!((((q0a l0 x5_1).f0).toList) == (((q0a l1 x5_1).f0).toList)) || (!((((q0a l0 x5_1).f1).toList) == (((q0a l1 x5_1).f1).toList)))) = false := by simpa using c7
        clear c7
        have H' := aS H
        clear H
        have p236 : 0 ≤ (x5_1 : Int) := od zb
        have q236 : x5_1 < (l0.length : Int) := od zb
        obtain ⟨ad236, e236, hx236_0, hx236_1⟩ := at_T122 HR0.out x5_1 p236 q236
        cases e236
        replace p236 := eq_true p236
        replace q236 := eq_true q236
        have p237 : 0 ≤ (x5_1 : Int) := od zb
        have q237 : x5_1 < (l1.length : Int) := od zb
        obtain ⟨ad237, e237, hx237_0, hx237_1⟩ := at_T122 HR1.out x5_1 p237 q237
        cases e237
        replace p237 := eq_true p237
        replace q237 := eq_true q237
        go_wp2
        repeat (go_quiet (fail); try go_wp2)
        go_roundg k1
        case measure => have := HK1.out; omega
        case rel => exact ⟨(wrap64 (x5_1 + 1)), zi, H', ⟨by have := HK1.out; omega⟩, by repeat (first | exact Drawn0.refl _ | apply Drawn0.step)⟩
      ·rw [if_neg c6] at H
       exact absurd H (by simp)
     ·rw [if_neg c5] at H
      exact absurd H (by simp)
    ·rw [if_neg c4] at H
     have c4b0 : decide (x5_1 < (l0.length : Int)) = false := decide_eq_false c4
     clear c4
     obtain rfl := Option.some.inj H
     go_wp2
     repeat (go_quiet (fail); try go_wp2)
     go_ret
     exact ⟨by first | rfl | (simp; done) | (simp [*]; done), by repeat (first | exact Drawn0.refl _ | apply Drawn0.step)⟩
 ·rw [if_neg c3] at H
  have c3b0 : ((l0.length : Int) == (l1.length : Int)) = false := beq_eq_false_iff_ne.mpr c3
  have c3b1 : ((l0.length : Int) != (l1.length : Int)) = true := bne_iff_ne.mpr c3
  have c3b2 : (l0.length == l1.length) = false := by first | simpa using c3 | (simp at c3 ⊢; omega)
  obtain rfl := Option.some.inj H
  go_enter Tryd.func138, Tryd.ntmps138
  go_wp2
  repeat (go_quiet (fail); try go_wp2)
  go_ret
  exact ⟨by first | rfl | (simp; done) | (simp [*]; done), by repeat (first | exact Drawn0.refl _ | apply Drawn0.step)⟩
def clerestoryref1_SameNode.f (k : Nat) (a0_0 : Int) (a0_1 : ByteArray) (l0_2 : List (S122)) (a0_3 : ByteArray) (a0_4 : Int) (l0_5 : List Int) (a1_0 : Int) (a1_1 : ByteArray) (l1_2 : List (S122)) (a1_3 : ByteArray) (a1_4 : Int) (l1_5 : List Int) : Option (Bool) := if a0_0 = a1_0 then (if a0_1.toList = a1_1.toList then (if a0_3.toList = a1_3.toList then (if a0_4 = a1_4 then ((clerestoryref1_SameAttrs.f k l0_2 l1_2).bind fun t240 => (if t240 = true then ((clerestoryref1_SameInts.f k l0_5 l1_5).bind fun t241 => (some t241)) else (some false))) else (some false)) else (some false)) else (some false)) else (some false)
theorem clerestoryref1_SameNode.mono : ∀ a0 a1 a2 a3 a4 a5 a6 a7 a8 a9 a10 a11 k, LeO (clerestoryref1_SameNode.f k a0 a1 a2 a3 a4 a5 a6 a7 a8 a9 a10 a11) (clerestoryref1_SameNode.f (k + 1) a0 a1 a2 a3 a4 a5 a6 a7 a8 a9 a10 a11) := by
 intro a0 a1 a2 a3 a4 a5 a6 a7 a8 a9 a10 a11 k
 unfold clerestoryref1_SameNode.f
 repeat' first | with_reducible first | apply clerestoryref1_SameAttrs.mono | apply clerestoryref1_SameInts.mono | exact LeO.refl _ | exact LeO.none _ | refine LeO.ite ?_ ?_ | refine LeO.bind ?_ (fun _ => ?_) | (first | apply clerestoryref1_SameAttrs.mono | apply clerestoryref1_SameInts.mono | exact LeO.none _ | refine LeO.ite ?_ ?_ | refine LeO.bind ?_ (fun _ => ?_))
set_option maxHeartbeats 8000000 in
set_option maxRecDepth 100000 in
theorem clerestoryref1_SameNode.calls (k : Nat) (a0_0 : Int) (a0_1 : ByteArray) (A0_2 : Option Addr) (c0_2 : Nat) (l0_2 : List (S122)) (a0_3 : ByteArray) (a0_4 : Int) (A0_5 : Option Addr) (c0_5 : Nat) (l0_5 : List Int) (a1_0 : Int) (a1_1 : ByteArray) (A1_2 : Option Addr) (c1_2 : Nat) (l1_2 : List (S122)) (a1_3 : ByteArray) (a1_4 : Int) (A1_5 : Option Addr) (c1_5 : Nat) (l1_5 : List Int) (r : Bool) (w : World) (hr0_2 : Kd.C k122 w A0_2 l0_2.length l0_2) (hc0_2 : l0_2.length ≤ c0_2) (hr0_5 : Kd.C (Kd.int .i64) w A0_5 l0_5.length l0_5) (hc0_5 : l0_5.length ≤ c0_5) (hr1_2 : Kd.C k122 w A1_2 l1_2.length l1_2) (hc1_2 : l1_2.length ≤ c1_2) (hr1_5 : Kd.C (Kd.int .i64) w A1_5 l1_5.length l1_5) (hc1_5 : l1_5.length ≤ c1_5) (h : clerestoryref1_SameNode.f k a0_0 a0_1 l0_2 a0_3 a0_4 l0_5 a1_0 a1_1 l1_2 a1_3 a1_4 l1_5 = some r) :
 Calls Tryd.prog 103 #[.agg #[.int .i64 a0_0, .string a0_1, .slice A0_2 l0_2.length c0_2, .string a0_3, .int .i64 a0_4, .slice A0_5 l0_5.length c0_5], .agg #[.int .i64 a1_0, .string a1_1, .slice A1_2 l1_2.length c1_2, .string a1_3, .int .i64 a1_4, .slice A1_5 l1_5.length c1_5]] w fun e w' => e = .returned (.bool r) ∧ Below w.heap.size w w' := by
 have hu43 := Tryd.underlying43
 have HR0_2 := aS hr0_2
 have HC0_2 := aS hc0_2
 clear hr0_2 hc0_2
 have HR0_5 := aS hr0_5
 have HC0_5 := aS hc0_5
 clear hr0_5 hc0_5
 have HR1_2 := aS hr1_2
 have HC1_2 := aS hc1_2
 clear hr1_2 hc1_2
 have HR1_5 := aS hr1_5
 have HC1_5 := aS hc1_5
 clear hr1_5 hc1_5
 have HB := aS (Below.refl w.heap.size w)
 have H := h; clear h; unfold clerestoryref1_SameNode.f at H
 refine iE H ?p3 ?n3 <;> clear H
 case' p3 => intro c3b0 c3b1 H; refine iE H ?p4 ?n4 <;> clear H
 case' p4 => intro c4b0 c4b1 H; refine iE H ?p5 ?n5 <;> clear H
 case' p5 => intro c5b0 c5b1 H; refine iE H ?p6 ?n6 <;> clear H
 case' p6 => intro c6b0 c6b1 H; replace H := iB H; obtain ⟨t240, A7, H⟩ := H; refine iV H ?p8 ?n8 <;> clear H
 case' p8 => intro c8 H; subst c8
 case' n8 => intro c8 H; subst c8
 case' n6 => intro c6 c6b0 c6b1 H
 case' n5 => intro c5 c5b0 c5b1 H
 case' n4 => intro c4 c4b0 c4b1 H
 case' n3 => intro c3 c3b0 c3b1 H
 case p8 =>
  replace H := iB H
  obtain ⟨t241, A9, H⟩ := H
  obtain rfl := Option.some.inj H
  go_enter Tryd.func103, Tryd.ntmps103
  go_wp2_with (first | ((with_reducible refine q05 (N := 2) rfl ?_); refine box0 rfl (N := 2) rfl (cs := #[.int .i64 a0_0, .string a0_1, .slice A0_2 l0_2.length c0_2, .string a0_3, .int .i64 a0_4, .slice A0_5 l0_5.length c0_5]) (t := 43) zh (z7 HB.out) ?_; clear HB; intro gb238 w10 BK238 GW238 HB; have GE238 := GW238) | ((with_reducible refine q05 (N := 3) rfl ?_); refine q0p ?hg (N := 3) ?hd (cs := #[.int .i64 a1_0, .string a1_1, .slice A1_2 l1_2.length c1_2, .string a1_3, .int .i64 a1_4, .slice A1_5 l1_5.length c1_5]) (t := 43) ?hr ?_; (case hd => rfl); (case hg => rfl); (case hr => first | (go_simp; done) | (go_simp; rfl)); intro gb239 hg w11 hbox hb; have n0_ := aS (q02 (g := gb238) (o := .cells #[.int .i64 a0_0, .string a0_1, .slice A0_2 l0_2.length c0_2, .string a0_3, .int .i64 a0_4, .slice A0_5 l0_5.length c0_5] 43 (0, 0)) (za BK238.out) hb); have n1_ := aS (q00 (z6 HB.out GE238.out) hb); have n2_ := aS (hbox); have n3_ := aS ((by rw [hg]; exact (q06 (z6 HB.out GE238.out)) : w.heap.size ≤ gb239)); have n4_ := aS ((by rw [hg]; exact (q06 (z6 HB.out GE238.out)) : w.heap.size ≤ gb239)); have n5_ := aS ((by rw [hg]; exact Nat.ne_of_lt (q0b (g := gb238) (o := .cells #[.int .i64 a0_0, .string a0_1, .slice A0_2 l0_2.length c0_2, .string a0_3, .int .i64 a0_4, .slice A0_5 l0_5.length c0_5] 43 (0, 0)) (za BK238.out)) : gb238 ≠ gb239)); have n6_ := aS ((by rw [hg]; exact Nat.ne_of_gt (q0b (g := gb238) (o := .cells #[.int .i64 a0_0, .string a0_1, .slice A0_2 l0_2.length c0_2, .string a0_3, .int .i64 a0_4, .slice A0_5 l0_5.length c0_5] 43 (0, 0)) (za BK238.out)) : gb239 ≠ gb238)); clear BK238; clear HB; have BK238 := n0_; have HB := n1_; have BK239 := n2_; have GW239 := n3_; have GE239 := n4_; have NB238_239 := n5_; have NB239_238 := n6_; clear n0_ n1_ n2_ n3_ n4_ n5_ n6_; clear hb hbox hg; have hnb12 := NB238_239.out; have hnc12 := NB239_238.out; obtain ⟨hczL_0, hczL_1, hczL_2, hczL_3, hczL_4, hczL_5, hfzL_0, hfzL_1, hfzL_2, hfzL_3, hfzL_4, hfzL_5⟩ := bk6 BK238.out; obtain ⟨hczL_0, hczL_1, hczL_2, hczL_3, hczL_4, hczL_5, hfzL_0, hfzL_1, hfzL_2, hfzL_3, hfzL_4, hfzL_5⟩ := bk6 BK239.out) | (go_at_call 138; (with_reducible refine (clerestoryref1_SameAttrs.calls k _ _ l0_2 _ _ l1_2 true _ ?side1 ?side2 ?side3 ?side4 A7.out).mono ?_); (case side1 => repeat (first | exact (Kd.C_below HR0_2.out HB.out) | (with_reducible refine cA ?_ _) | (with_reducible refine cN ?_ _) | (with_reducible refine cD ?_))); (case side2 => exact HC0_2.out); (case side3 => repeat (first | exact (Kd.C_below HR1_2.out HB.out) | (with_reducible refine cA ?_ _) | (with_reducible refine cN ?_ _) | (with_reducible refine cD ?_))); (case side4 => exact HC1_2.out); rintro e w' ⟨rfl, ⟨nd, rfl⟩⟩) | (go_at_call 30; (with_reducible refine (clerestoryref1_SameInts.calls k _ _ l0_5 _ _ l1_5 t241 _ ?side1 ?side2 ?side3 ?side4 A9.out).mono ?_); (case side1 => repeat (first | exact (Kd.C_below HR0_5.out (by repeat (first | (with_reducible first | exact HB.out | apply bA | apply bN | apply bD | refine bS ?_ GE238.out | refine bS ?_ GE239.out) | exact HB.out))) | (with_reducible refine cA ?_ _) | (with_reducible refine cN ?_ _) | (with_reducible refine cD ?_))); (case side2 => exact HC0_5.out); (case side3 => repeat (first | exact (Kd.C_below HR1_5.out (by repeat (first | (with_reducible first | exact HB.out | apply bA | apply bN | apply bD | refine bS ?_ GE238.out | refine bS ?_ GE239.out) | exact HB.out))) | (with_reducible refine cA ?_ _) | (with_reducible refine cN ?_ _) | (with_reducible refine cD ?_))); (case side4 => exact HC1_5.out); rintro e w' ⟨rfl, ⟨nd, rfl⟩⟩))
  go_ret
  exact ⟨by first | rfl | (simp [q04, q03] <;> rfl) | (simp [*, q04, q03] <;> rfl), by repeat (first | (with_reducible first | exact HB.out | apply bA | apply bN | apply bD | refine bS ?_ GE238.out | refine bS ?_ GE239.out) | exact HB.out)⟩
 case n8 =>
  obtain rfl := Option.some.inj H
  go_enter Tryd.func103, Tryd.ntmps103
  go_wp2_with (first | ((with_reducible refine q05 (N := 2) rfl ?_); refine box0 rfl (N := 2) rfl (cs := #[.int .i64 a0_0, .string a0_1, .slice A0_2 l0_2.length c0_2, .string a0_3, .int .i64 a0_4, .slice A0_5 l0_5.length c0_5]) (t := 43) zh (z7 HB.out) ?_; clear HB; intro gb238 w15 BK238 GW238 HB; have GE238 := GW238) | ((with_reducible refine q05 (N := 3) rfl ?_); refine q0p ?hg (N := 3) ?hd (cs := #[.int .i64 a1_0, .string a1_1, .slice A1_2 l1_2.length c1_2, .string a1_3, .int .i64 a1_4, .slice A1_5 l1_5.length c1_5]) (t := 43) ?hr ?_; (case hd => rfl); (case hg => rfl); (case hr => first | (go_simp; done) | (go_simp; rfl)); intro gb239 hg w16 hbox hb; have n0_ := aS (q02 (g := gb238) (o := .cells #[.int .i64 a0_0, .string a0_1, .slice A0_2 l0_2.length c0_2, .string a0_3, .int .i64 a0_4, .slice A0_5 l0_5.length c0_5] 43 (0, 0)) (za BK238.out) hb); have n1_ := aS (q00 (z6 HB.out GE238.out) hb); have n2_ := aS (hbox); have n3_ := aS ((by rw [hg]; exact (q06 (z6 HB.out GE238.out)) : w.heap.size ≤ gb239)); have n4_ := aS ((by rw [hg]; exact (q06 (z6 HB.out GE238.out)) : w.heap.size ≤ gb239)); have n5_ := aS ((by rw [hg]; exact Nat.ne_of_lt (q0b (g := gb238) (o := .cells #[.int .i64 a0_0, .string a0_1, .slice A0_2 l0_2.length c0_2, .string a0_3, .int .i64 a0_4, .slice A0_5 l0_5.length c0_5] 43 (0, 0)) (za BK238.out)) : gb238 ≠ gb239)); have n6_ := aS ((by rw [hg]; exact Nat.ne_of_gt (q0b (g := gb238) (o := .cells #[.int .i64 a0_0, .string a0_1, .slice A0_2 l0_2.length c0_2, .string a0_3, .int .i64 a0_4, .slice A0_5 l0_5.length c0_5] 43 (0, 0)) (za BK238.out)) : gb239 ≠ gb238)); clear BK238; clear HB; have BK238 := n0_; have HB := n1_; have BK239 := n2_; have GW239 := n3_; have GE239 := n4_; have NB238_239 := n5_; have NB239_238 := n6_; clear n0_ n1_ n2_ n3_ n4_ n5_ n6_; clear hb hbox hg; have hnb17 := NB238_239.out; have hnc17 := NB239_238.out; obtain ⟨hczL_0, hczL_1, hczL_2, hczL_3, hczL_4, hczL_5, hfzL_0, hfzL_1, hfzL_2, hfzL_3, hfzL_4, hfzL_5⟩ := bk6 BK238.out; obtain ⟨hczL_0, hczL_1, hczL_2, hczL_3, hczL_4, hczL_5, hfzL_0, hfzL_1, hfzL_2, hfzL_3, hfzL_4, hfzL_5⟩ := bk6 BK239.out) | (go_at_call 138; (with_reducible refine (clerestoryref1_SameAttrs.calls k _ _ l0_2 _ _ l1_2 false _ ?side1 ?side2 ?side3 ?side4 A7.out).mono ?_); (case side1 => repeat (first | exact (Kd.C_below HR0_2.out HB.out) | (with_reducible refine cA ?_ _) | (with_reducible refine cN ?_ _) | (with_reducible refine cD ?_))); (case side2 => exact HC0_2.out); (case side3 => repeat (first | exact (Kd.C_below HR1_2.out HB.out) | (with_reducible refine cA ?_ _) | (with_reducible refine cN ?_ _) | (with_reducible refine cD ?_))); (case side4 => exact HC1_2.out); rintro e w' ⟨rfl, ⟨nd, rfl⟩⟩))
  go_ret
  exact ⟨by first | rfl | (simp [q04, q03] <;> rfl) | (simp [*, q04, q03] <;> rfl), by repeat (first | (with_reducible first | exact HB.out | apply bA | apply bN | apply bD | refine bS ?_ GE238.out | refine bS ?_ GE239.out) | exact HB.out)⟩
 case n6 =>
  obtain rfl := Option.some.inj H
  go_enter Tryd.func103, Tryd.ntmps103
  go_wp2_with (first | ((with_reducible refine q05 (N := 2) rfl ?_); refine box0 rfl (N := 2) rfl (cs := #[.int .i64 a0_0, .string a0_1, .slice A0_2 l0_2.length c0_2, .string a0_3, .int .i64 a0_4, .slice A0_5 l0_5.length c0_5]) (t := 43) zh (z7 HB.out) ?_; clear HB; intro gb238 w20 BK238 GW238 HB; have GE238 := GW238) | ((with_reducible refine q05 (N := 3) rfl ?_); refine q0p ?hg (N := 3) ?hd (cs := #[.int .i64 a1_0, .string a1_1, .slice A1_2 l1_2.length c1_2, .string a1_3, .int .i64 a1_4, .slice A1_5 l1_5.length c1_5]) (t := 43) ?hr ?_; (case hd => rfl); (case hg => rfl); (case hr => first | (go_simp; done) | (go_simp; rfl)); intro gb239 hg w21 hbox hb; have n0_ := aS (q02 (g := gb238) (o := .cells #[.int .i64 a0_0, .string a0_1, .slice A0_2 l0_2.length c0_2, .string a0_3, .int .i64 a0_4, .slice A0_5 l0_5.length c0_5] 43 (0, 0)) (za BK238.out) hb); have n1_ := aS (q00 (z6 HB.out GE238.out) hb); have n2_ := aS (hbox); have n3_ := aS ((by rw [hg]; exact (q06 (z6 HB.out GE238.out)) : w.heap.size ≤ gb239)); have n4_ := aS ((by rw [hg]; exact (q06 (z6 HB.out GE238.out)) : w.heap.size ≤ gb239)); have n5_ := aS ((by rw [hg]; exact Nat.ne_of_lt (q0b (g := gb238) (o := .cells #[.int .i64 a0_0, .string a0_1, .slice A0_2 l0_2.length c0_2, .string a0_3, .int .i64 a0_4, .slice A0_5 l0_5.length c0_5] 43 (0, 0)) (za BK238.out)) : gb238 ≠ gb239)); have n6_ := aS ((by rw [hg]; exact Nat.ne_of_gt (q0b (g := gb238) (o := .cells #[.int .i64 a0_0, .string a0_1, .slice A0_2 l0_2.length c0_2, .string a0_3, .int .i64 a0_4, .slice A0_5 l0_5.length c0_5] 43 (0, 0)) (za BK238.out)) : gb239 ≠ gb238)); clear BK238; clear HB; have BK238 := n0_; have HB := n1_; have BK239 := n2_; have GW239 := n3_; have GE239 := n4_; have NB238_239 := n5_; have NB239_238 := n6_; clear n0_ n1_ n2_ n3_ n4_ n5_ n6_; clear hb hbox hg; have hnb22 := NB238_239.out; have hnc22 := NB239_238.out; obtain ⟨hczL_0, hczL_1, hczL_2, hczL_3, hczL_4, hczL_5, hfzL_0, hfzL_1, hfzL_2, hfzL_3, hfzL_4, hfzL_5⟩ := bk6 BK238.out; obtain ⟨hczL_0, hczL_1, hczL_2, hczL_3, hczL_4, hczL_5, hfzL_0, hfzL_1, hfzL_2, hfzL_3, hfzL_4, hfzL_5⟩ := bk6 BK239.out))
  go_ret
  exact ⟨by first | rfl | (simp [q04, q03] <;> rfl) | (simp [*, q04, q03] <;> rfl), by repeat (first | (with_reducible first | exact HB.out | apply bA | apply bN | apply bD | refine bS ?_ GE238.out | refine bS ?_ GE239.out) | exact HB.out)⟩
 case n5 =>
  obtain rfl := Option.some.inj H
  go_enter Tryd.func103, Tryd.ntmps103
  go_wp2_with (first | ((with_reducible refine q05 (N := 2) rfl ?_); refine box0 rfl (N := 2) rfl (cs := #[.int .i64 a0_0, .string a0_1, .slice A0_2 l0_2.length c0_2, .string a0_3, .int .i64 a0_4, .slice A0_5 l0_5.length c0_5]) (t := 43) zh (z7 HB.out) ?_; clear HB; intro gb238 w25 BK238 GW238 HB; have GE238 := GW238) | ((with_reducible refine q05 (N := 3) rfl ?_); refine q0p ?hg (N := 3) ?hd (cs := #[.int .i64 a1_0, .string a1_1, .slice A1_2 l1_2.length c1_2, .string a1_3, .int .i64 a1_4, .slice A1_5 l1_5.length c1_5]) (t := 43) ?hr ?_; (case hd => rfl); (case hg => rfl); (case hr => first | (go_simp; done) | (go_simp; rfl)); intro gb239 hg w26 hbox hb; have n0_ := aS (q02 (g := gb238) (o := .cells #[.int .i64 a0_0, .string a0_1, .slice A0_2 l0_2.length c0_2, .string a0_3, .int .i64 a0_4, .slice A0_5 l0_5.length c0_5] 43 (0, 0)) (za BK238.out) hb); have n1_ := aS (q00 (z6 HB.out GE238.out) hb); have n2_ := aS (hbox); have n3_ := aS ((by rw [hg]; exact (q06 (z6 HB.out GE238.out)) : w.heap.size ≤ gb239)); have n4_ := aS ((by rw [hg]; exact (q06 (z6 HB.out GE238.out)) : w.heap.size ≤ gb239)); have n5_ := aS ((by rw [hg]; exact Nat.ne_of_lt (q0b (g := gb238) (o := .cells #[.int .i64 a0_0, .string a0_1, .slice A0_2 l0_2.length c0_2, .string a0_3, .int .i64 a0_4, .slice A0_5 l0_5.length c0_5] 43 (0, 0)) (za BK238.out)) : gb238 ≠ gb239)); have n6_ := aS ((by rw [hg]; exact Nat.ne_of_gt (q0b (g := gb238) (o := .cells #[.int .i64 a0_0, .string a0_1, .slice A0_2 l0_2.length c0_2, .string a0_3, .int .i64 a0_4, .slice A0_5 l0_5.length c0_5] 43 (0, 0)) (za BK238.out)) : gb239 ≠ gb238)); clear BK238; clear HB; have BK238 := n0_; have HB := n1_; have BK239 := n2_; have GW239 := n3_; have GE239 := n4_; have NB238_239 := n5_; have NB239_238 := n6_; clear n0_ n1_ n2_ n3_ n4_ n5_ n6_; clear hb hbox hg; have hnb27 := NB238_239.out; have hnc27 := NB239_238.out; obtain ⟨hczL_0, hczL_1, hczL_2, hczL_3, hczL_4, hczL_5, hfzL_0, hfzL_1, hfzL_2, hfzL_3, hfzL_4, hfzL_5⟩ := bk6 BK238.out; obtain ⟨hczL_0, hczL_1, hczL_2, hczL_3, hczL_4, hczL_5, hfzL_0, hfzL_1, hfzL_2, hfzL_3, hfzL_4, hfzL_5⟩ := bk6 BK239.out))
  go_ret
  exact ⟨by first | rfl | (simp [q04, q03] <;> rfl) | (simp [*, q04, q03] <;> rfl), by repeat (first | (with_reducible first | exact HB.out | apply bA | apply bN | apply bD | refine bS ?_ GE238.out | refine bS ?_ GE239.out) | exact HB.out)⟩
 case n4 =>
  obtain rfl := Option.some.inj H
  go_enter Tryd.func103, Tryd.ntmps103
  go_wp2_with (first | ((with_reducible refine q05 (N := 2) rfl ?_); refine box0 rfl (N := 2) rfl (cs := #[.int .i64 a0_0, .string a0_1, .slice A0_2 l0_2.length c0_2, .string a0_3, .int .i64 a0_4, .slice A0_5 l0_5.length c0_5]) (t := 43) zh (z7 HB.out) ?_; clear HB; intro gb238 w30 BK238 GW238 HB; have GE238 := GW238) | ((with_reducible refine q05 (N := 3) rfl ?_); refine q0p ?hg (N := 3) ?hd (cs := #[.int .i64 a1_0, .string a1_1, .slice A1_2 l1_2.length c1_2, .string a1_3, .int .i64 a1_4, .slice A1_5 l1_5.length c1_5]) (t := 43) ?hr ?_; (case hd => rfl); (case hg => rfl); (case hr => first | (go_simp; done) | (go_simp; rfl)); intro gb239 hg w31 hbox hb; have n0_ := aS (q02 (g := gb238) (o := .cells #[.int .i64 a0_0, .string a0_1, .slice A0_2 l0_2.length c0_2, .string a0_3, .int .i64 a0_4, .slice A0_5 l0_5.length c0_5] 43 (0, 0)) (za BK238.out) hb); have n1_ := aS (q00 (z6 HB.out GE238.out) hb); have n2_ := aS (hbox); have n3_ := aS ((by rw [hg]; exact (q06 (z6 HB.out GE238.out)) : w.heap.size ≤ gb239)); have n4_ := aS ((by rw [hg]; exact (q06 (z6 HB.out GE238.out)) : w.heap.size ≤ gb239)); have n5_ := aS ((by rw [hg]; exact Nat.ne_of_lt (q0b (g := gb238) (o := .cells #[.int .i64 a0_0, .string a0_1, .slice A0_2 l0_2.length c0_2, .string a0_3, .int .i64 a0_4, .slice A0_5 l0_5.length c0_5] 43 (0, 0)) (za BK238.out)) : gb238 ≠ gb239)); have n6_ := aS ((by rw [hg]; exact Nat.ne_of_gt (q0b (g := gb238) (o := .cells #[.int .i64 a0_0, .string a0_1, .slice A0_2 l0_2.length c0_2, .string a0_3, .int .i64 a0_4, .slice A0_5 l0_5.length c0_5] 43 (0, 0)) (za BK238.out)) : gb239 ≠ gb238)); clear BK238; clear HB; have BK238 := n0_; have HB := n1_; have BK239 := n2_; have GW239 := n3_; have GE239 := n4_; have NB238_239 := n5_; have NB239_238 := n6_; clear n0_ n1_ n2_ n3_ n4_ n5_ n6_; clear hb hbox hg; have hnb32 := NB238_239.out; have hnc32 := NB239_238.out; obtain ⟨hczL_0, hczL_1, hczL_2, hczL_3, hczL_4, hczL_5, hfzL_0, hfzL_1, hfzL_2, hfzL_3, hfzL_4, hfzL_5⟩ := bk6 BK238.out; obtain ⟨hczL_0, hczL_1, hczL_2, hczL_3, hczL_4, hczL_5, hfzL_0, hfzL_1, hfzL_2, hfzL_3, hfzL_4, hfzL_5⟩ := bk6 BK239.out))
  go_ret
  exact ⟨by first | rfl | (simp [q04, q03] <;> rfl) | (simp [*, q04, q03] <;> rfl), by repeat (first | (with_reducible first | exact HB.out | apply bA | apply bN | apply bD | refine bS ?_ GE238.out | refine bS ?_ GE239.out) | exact HB.out)⟩
 case n3 =>
  obtain rfl := Option.some.inj H
  go_enter Tryd.func103, Tryd.ntmps103
  go_wp2_with (first | ((with_reducible refine q05 (N := 2) rfl ?_); refine box0 rfl (N := 2) rfl (cs := #[.int .i64 a0_0, .string a0_1, .slice A0_2 l0_2.length c0_2, .string a0_3, .int .i64 a0_4, .slice A0_5 l0_5.length c0_5]) (t := 43) zh (z7 HB.out) ?_; clear HB; intro gb238 w35 BK238 GW238 HB; have GE238 := GW238) | ((with_reducible refine q05 (N := 3) rfl ?_); refine q0p ?hg (N := 3) ?hd (cs := #[.int .i64 a1_0, .string a1_1, .slice A1_2 l1_2.length c1_2, .string a1_3, .int .i64 a1_4, .slice A1_5 l1_5.length c1_5]) (t := 43) ?hr ?_; (case hd => rfl); (case hg => rfl); (case hr => first | (go_simp; done) | (go_simp; rfl)); intro gb239 hg w36 hbox hb; have n0_ := aS (q02 (g := gb238) (o := .cells #[.int .i64 a0_0, .string a0_1, .slice A0_2 l0_2.length c0_2, .string a0_3, .int .i64 a0_4, .slice A0_5 l0_5.length c0_5] 43 (0, 0)) (za BK238.out) hb); have n1_ := aS (q00 (z6 HB.out GE238.out) hb); have n2_ := aS (hbox); have n3_ := aS ((by rw [hg]; exact (q06 (z6 HB.out GE238.out)) : w.heap.size ≤ gb239)); have n4_ := aS ((by rw [hg]; exact (q06 (z6 HB.out GE238.out)) : w.heap.size ≤ gb239)); have n5_ := aS ((by rw [hg]; exact Nat.ne_of_lt (q0b (g := gb238) (o := .cells #[.int .i64 a0_0, .string a0_1, .slice A0_2 l0_2.length c0_2, .string a0_3, .int .i64 a0_4, .slice A0_5 l0_5.length c0_5] 43 (0, 0)) (za BK238.out)) : gb238 ≠ gb239)); have n6_ := aS ((by rw [hg]; exact Nat.ne_of_gt (q0b (g := gb238) (o := .cells #[.int .i64 a0_0, .string a0_1, .slice A0_2 l0_2.length c0_2, .string a0_3, .int .i64 a0_4, .slice A0_5 l0_5.length c0_5] 43 (0, 0)) (za BK238.out)) : gb239 ≠ gb238)); clear BK238; clear HB; have BK238 := n0_; have HB := n1_; have BK239 := n2_; have GW239 := n3_; have GE239 := n4_; have NB238_239 := n5_; have NB239_238 := n6_; clear n0_ n1_ n2_ n3_ n4_ n5_ n6_; clear hb hbox hg; have hnb37 := NB238_239.out; have hnc37 := NB239_238.out; obtain ⟨hczL_0, hczL_1, hczL_2, hczL_3, hczL_4, hczL_5, hfzL_0, hfzL_1, hfzL_2, hfzL_3, hfzL_4, hfzL_5⟩ := bk6 BK238.out; obtain ⟨hczL_0, hczL_1, hczL_2, hczL_3, hczL_4, hczL_5, hfzL_0, hfzL_1, hfzL_2, hfzL_3, hfzL_4, hfzL_5⟩ := bk6 BK239.out))
  go_ret
  exact ⟨by first | rfl | (simp [q04, q03] <;> rfl) | (simp [*, q04, q03] <;> rfl), by repeat (first | (with_reducible first | exact HB.out | apply bA | apply bN | apply bD | refine bS ?_ GE238.out | refine bS ?_ GE239.out) | exact HB.out)⟩
end Go.Proofs.YthjnallbbhnndaaDoor.XDb
namespace Go.Proofs.YthjnallbbhnndaaDoor.XDb
open Go.Proofs.YthjnallbbhnndaaDoor.Short Go.RowKit Go.Proofs.YthjnallbbhnndaaDoorW.PrintWords Go.Proofs.YthjnallbbhnndaaDoorW.PrintLast Go.Proofs.YthjnallbbhnndaaDoorW.PrintMore
attribute [local go_sem] q14 q12 q1b q1a q0u q0t q13 q11   -- for this text's walks alone
set_option linter.unusedVariables false
set_option linter.unusedSimpArgs false
mutual
def clerestoryref1_Below.l0 : Nat → Int → List Int → Int → List (S43) → Bool → Option (List Int)
 | 0, _, _, _, _, _ => none
 | k + 1, x1, x5, x6, x264000, x264001 => if 0 ≤ x1 then (if x1 < (x264000.length : Int) then (if x6 < (((q01 x264000 x1).f5).length : Int) then (if 0 ≤ x6 then ((clerestoryref1_Below.f k x264000 x264001 (rd ((q01 x264000 x1).f5) x6)).bind fun t270 => (if x5.length + t270.length < 17592186044416 then (clerestoryref1_Below.l0 k x1 (x5 ++ t270) (wrap64 (x6 + 1)) x264000 x264001) else (none))) else (none)) else (some x5)) else (none)) else (none)
def clerestoryref1_Below.f : Nat → List (S43) → Bool → Int → Option (List Int)
 | 0, _, _, _ => none
 | k + 1, l0_0, a0_1, a1 => clerestoryref1_Below.l0 k a1 (([a1] : List Int)) 0 l0_0 a0_1
end
theorem clerestoryref1_Below.mono_l : ∀ k, (∀ y0 y1 y2, LeO (clerestoryref1_Below.f k y0 y1 y2) (clerestoryref1_Below.f (k + 1) y0 y1 y2)) ∧ (∀ y0 y1 y2 y3 y4, LeO (clerestoryref1_Below.l0 k y0 y1 y2 y3 y4) (clerestoryref1_Below.l0 (k + 1) y0 y1 y2 y3 y4))
 | 0 => ⟨fun _ _ _ r h => by simp [clerestoryref1_Below.f] at h, fun _ _ _ _ _ r h => by simp [clerestoryref1_Below.l0] at h⟩
 | k + 1 => by
  obtain ⟨ih0, ih1⟩ := clerestoryref1_Below.mono_l k
  refine ⟨?_, ?_⟩
  all_goals intros
  all_goals (first | unfold clerestoryref1_Below.f | unfold clerestoryref1_Below.l0)
  all_goals (repeat' first | with_reducible first | apply ih0 | apply ih1 | exact LeO.refl _ | exact LeO.none _ | refine LeO.ite ?_ ?_ | refine LeO.bind ?_ (fun _ => ?_) | (first | apply ih0 | apply ih1 | exact LeO.none _ | refine LeO.ite ?_ ?_ | refine LeO.bind ?_ (fun _ => ?_)))
theorem clerestoryref1_Below.mono : ∀ a0 a1 a2 k, LeO (clerestoryref1_Below.f k a0 a1 a2) (clerestoryref1_Below.f (k + 1) a0 a1 a2) := by
 intro a0 a1 a2 k
 obtain ⟨ih0, ih1⟩ := clerestoryref1_Below.mono_l k
 exact ih0 a0 a1 a2
def clerestoryref1_Below.T5 : Bool × List (List Nat × List Nat) := (true, [([], []), ([], []), ([], []), ([2], [2]), ([], []), ([3, 4], [3, 4]), ([5], [5]), ([6], [6]), ([], []), ([7, 8], [7, 8]), ([9], [9]), ([1, 10], [1, 10]), ([0, 11, 11], [0, 11]), ([12, 12, 0, 1, 2, 3, 4, 5, 6, 7, 8, 9, 10, 11, 12], [0, 12])])
def clerestoryref1_Below.B5 : List Nat := [0, 0, 0, 4, 0, 28, 60, 124, 0, 508, 1020, 2046, 4095, 8191]
theorem clerestoryref1_Below.tab5 : rtab .any (opsOf Tryd.f25 5) = clerestoryref1_Below.T5 := by kernel_rfl
theorem clerestoryref1_Below.bits5 : waitsOk clerestoryref1_Below.T5.2 clerestoryref1_Below.B5 = true := by kernel_rfl
set_option maxHeartbeats 8000000 in
set_option maxRecDepth 100000 in
theorem clerestoryref1_Below.calls (k : Nat) : ∀ (A0_0 : Option Addr) (c0_0 : Nat) (l0_0 : List (S43)) (a0_1 : Bool) (a1 : Int) (r : List Int) (w : World) (hr0_0 : Kd.C k43 w A0_0 l0_0.length l0_0) (hc0_0 : l0_0.length ≤ c0_0) (h : clerestoryref1_Below.f k l0_0 a0_1 a1 = some r),
 Calls Tryd.prog 25 #[.agg #[.slice A0_0 l0_0.length c0_0, .bool a0_1], .int .i64 a1] w fun e w' => ∃ v0_ : Value, e = .returned (v0_) ∧ Kd.R (Kd.int .i64) 3 w' w.heap.size (fun _ => True) v0_ r ∧ Below w.heap.size w w' := by
 induction k using Nat.strongRecOn with
 | _ k ih =>
 intro A0_0 c0_0 l0_0 a0_1 a1 r w hr0_0 hc0_0 h
 cases k with
 | zero => exact absurd h (by simp [clerestoryref1_Below.f])
 | succ k =>
 simp only [clerestoryref1_Below.f] at h
 have hu24 := Tryd.underlying24
 have HR0_0 := aS hr0_0
 have HC0_0 := aS hc0_0
 clear hr0_0 hc0_0
 have HB := aS (Below.refl w.heap.size w)
 have H := h; clear h; unfold clerestoryref1_Below.f at H
 obtain ⟨y264, hy264⟩ : ∃ y_ : List Int, y_ = (([a1] : List Int)) := ⟨_, rfl⟩
 replace H : (clerestoryref1_Below.l0 k a1 y264 0 l0_0 a0_1) = some r := by first | (rw [hy264]; with_reducible exact H) | (have H2_ := (Option.bind_some _ _).symm.trans H; rw [hy264]; with_reducible exact H2_) | (have H2_ := (Option.bind_some _ _).symm.trans H; with_reducible exact H2_) | with_reducible exact H | (rw [hy264]; exact H) | exact H
 have Ny264 := aS hy264
 clear hy264
 have H' := aS H
 clear H
 go_enter Tryd.func25, Tryd.ntmps25
 go_wp2_with (first | ((with_reducible refine q05 (N := 2) rfl ?_); refine box0 rfl (N := 2) rfl (cs := #[.slice A0_0 l0_0.length c0_0, .bool a0_1]) (t := 24) zh (z7 HB.out) ?_; clear HB; intro gb263 w3 BK263 GW263 HB; have GE263 := GW263) | ((with_reducible refine q05 (N := 8) rfl ?_); refine Kd.R_lit (Kd.int .i64) _ 3 ?hg (N := 8) ?hd (xs := ([a1] : List Int)) (inner := [.int .i64 a1]) (ok := fun _ => True) (okp := fun _ => True) ?hr ?hp (fun _ hk => hk) trivial (Below.refl _ _) (Nat.le_refl _) (by simp) ?_; (case hd => rfl); (case hg => rfl); (case hr => first | (go_simp; done) | (go_simp; rfl)); (case hp => exact (Reps.one (show Kd.M (Kd.int .i64) _ _ _ a1 [.int .i64 a1] from rfl) (Reps.none _ _))); intro v265 w4 ho5 hb hg_ hnew_; clear hg_ hnew_; (first | rw [← Ny264.out] at ho5 | (simp only [Int.reduceToNat] at ho5; rw [← Ny264.out] at ho5)); have HO266 := aS (Kd.R_lower ho5 (q06 (z6 HB.out GE263.out))); replace BK263 := aS (q02 (g := gb263) (o := .cells #[.slice A0_0 l0_0.length c0_0, .bool a0_1] 24 (0, 0)) (za BK263.out) hb); replace HB := aS (q00 (z6 HB.out GE263.out) hb); clear hb ho5))
 go_loopg [5, 6] k (fun kq v5 v6 w' => ∃ (x5_1 : List Int) (x6_1 : Int), v6 = .int .i64 x6_1 ∧ Aside0 (clerestoryref1_Below.l0 kq a1 x5_1 x6_1 l0_0 a0_1 = some r) ∧ Aside0 (kq ≤ k) ∧ Aside0 (Kd.R (Kd.int .i64) 3 w' w.heap.size (fun _ => True) v5 x5_1) ∧ Aside0 (w'.heap[gb263]? = some (.cells #[(.slice A0_0 l0_0.length c0_0), .bool a0_1] 24 (0, 0))) ∧ Aside0 (Below w.heap.size w w'))
 case atStart => exact ⟨(y264), (0), zi, H', ⟨Nat.le_refl _⟩, ⟨by (with_reducible repeat (first | apply rA | apply rN | apply rD)); exact HO266.out⟩, ⟨by (with_reducible repeat (first | refine kN ?_ _ | refine kD ?_ | refine kA ?_ _)); exact BK263.out⟩, ⟨by repeat (first | (with_reducible first | exact HB.out | apply bA | apply bN | apply bD | refine bS ?_ GE263.out) | exact HB.out)⟩⟩
 case round =>
  clear H'
  obtain ⟨x5_1, x6_1, rfl, HA, HK1, HO_5, BK263, HB⟩ := hrel
  cases gk with
  | zero => exact absurd HA.out (by simp [clerestoryref1_Below.l0])
  | succ k1 =>
   have H := HA.out
   clear HA
   simp only [clerestoryref1_Below.l0] at H
   refine iLp H ?_; clear H; intro c6b0 H
   refine iTp H ?_; clear H; intro c7b0 H
   refine iT H ?p8 ?n8 <;> clear H
   case' p8 => intro c8b0 H; refine iLp H ?_; clear H; intro c9b0 H; replace H := iB H; obtain ⟨t270, A10, H⟩ := H; refine iGp H ?_; clear H; intro c11 H
   case' n8 => intro c8b0 H
   case p8 =>
    have LMc11 := aS c11
    clear c11
    obtain ⟨y273, hy273⟩ : ∃ y_ : List Int, y_ = (x5_1 ++ t270) := ⟨_, rfl⟩
    replace H : (clerestoryref1_Below.l0 k1 a1 y273 (wrap64 (x6_1 + 1)) l0_0 a0_1) = some r := by first | (rw [hy273]; with_reducible exact H) | (have H2_ := (Option.bind_some _ _).symm.trans H; rw [hy273]; with_reducible exact H2_) | (have H2_ := (Option.bind_some _ _).symm.trans H; with_reducible exact H2_) | with_reducible exact H | (rw [hy273]; exact H) | exact H
    have Ny273 := aS hy273
    clear hy273
    have H' := aS H
    clear H
    obtain ⟨hczL_0, hczL_1, hfzL_0, hfzL_1⟩ := bk2 BK263.out
    obtain ⟨ad267, A267_2, c267_2, A267_5, c267_5, e267, hx267_0, hx267_1, hx267_2, hx267_3, hx267_4, hx267_5, HC267_2, HR267_2, HC267_5, HR267_5, p267, q267⟩ := q0h HB.out HR0_0.out a1 zb zb
    cases e267
    try go_wp2
    have n0_ := aS (Kd.R_drew HO_5.out)
    have n1_ := aS (q1q BK263.out)
    have n2_ := aS (below_drew1 HB.out)
    clear HO_5
    clear BK263
    clear HB
    have HO_5 := n0_
    have BK263 := n1_
    have HB := n2_
    clear n0_ n1_ n2_
    have p268 : 0 ≤ (a1 : Int) := od zb
    have q268 : a1 < (l0_0.length : Int) := od zb
    obtain ⟨ad268, A268_2, c268_2, A268_5, c268_5, e268, hx268_0, hx268_1, hx268_2, hx268_3, hx268_4, hx268_5, hl268_2, hi268_2, hl268_5, hi268_5⟩ := at_T43 HR0_0.out a1 p268 q268
    have hw268_5 := hx268_5
    have hw268_4 := hx268_4
    have hw268_3 := hx268_3
    have hw268_2 := hx268_2
    have hw268_1 := hx268_1
    have hw268_0 := hx268_0
    obtain rfl : ad267 = ad268 := (by injection e268)
    replace hx268_0 := q08 HB.out hx268_0
    replace hx268_1 := q08 HB.out hx268_1
    replace hx268_2 := q08 HB.out hx268_2
    replace hx268_3 := q08 HB.out hx268_3
    replace hx268_4 := q08 HB.out hx268_4
    replace hx268_5 := q08 HB.out hx268_5
    have HR268_2 := aS hi268_2
    have HC268_2 := aS hl268_2
    clear hi268_2 hl268_2
    have HR268_5 := aS hi268_5
    have HC268_5 := aS hl268_5
    clear hi268_5 hl268_5
    replace p268 := eq_true p268
    replace q268 := eq_true q268
    have p269 : 0 ≤ (x6_1 : Int) := od zb
    have q269 : x6_1 < (((q01 l0_0 a1).f5).length : Int) := od zb
    obtain ⟨ad269, e269, hx269_0⟩ := Kd.at_int HR268_5.out x6_1 p269 q269
    have hw269_0 := hx269_0
    cases e269
    replace hx269_0 := q08 HB.out hx269_0
    replace p269 := eq_true p269
    replace q269 := eq_true q269
    refine start_ (n := 14) (S := fun w' => w'.cell? ⟨gb263, 0, none⟩ = some (.slice (some ad267) l0_0.length c0_0) ∧ w'.cell? ⟨gb263, 1, none⟩ = some (.bool a0_1) ∧ w'.cell? (ad267.add ((a1).toNat * 6)) = some (.int .i64 ((q01 l0_0 a1).f0)) ∧ w'.cell? ⟨(ad267.add ((a1).toNat * 6)).block, (ad267.add ((a1).toNat * 6)).off + 1, none⟩ = some (.string ((q01 l0_0 a1).f1)) ∧ w'.cell? ⟨(ad267.add ((a1).toNat * 6)).block, (ad267.add ((a1).toNat * 6)).off + 2, none⟩ = some (.slice A268_2 ((q01 l0_0 a1).f2).length c268_2) ∧ w'.cell? ⟨(ad267.add ((a1).toNat * 6)).block, (ad267.add ((a1).toNat * 6)).off + 3, none⟩ = some (.string ((q01 l0_0 a1).f3)) ∧ w'.cell? ⟨(ad267.add ((a1).toNat * 6)).block, (ad267.add ((a1).toNat * 6)).off + 4, none⟩ = some (.int .i64 ((q01 l0_0 a1).f4)) ∧ w'.cell? ⟨(ad267.add ((a1).toNat * 6)).block, (ad267.add ((a1).toNat * 6)).off + 5, none⟩ = some (.slice (some ad269) ((q01 l0_0 a1).f5).length c268_5) ∧ w'.cell? (ad269.add (x6_1).toNat) = some (.int .i64 (rd ((q01 l0_0 a1).f5) x6_1))) (ds := []) #[false, false, false, false, false, false, false, false, false, false, false, false, false, false] (by kernel_rfl) rfl rfl ⟨(q09 BK263.out 0).trans rfl, (q09 BK263.out 1).trans rfl, ((HB.out.cell (World.block_lt_of_cell? w _ hw268_0)).trans hw268_0), ((HB.out.cell (World.block_lt_of_cell? w _ hw268_1)).trans hw268_1), ((HB.out.cell (World.block_lt_of_cell? w _ hw268_2)).trans hw268_2), ((HB.out.cell (World.block_lt_of_cell? w _ hw268_3)).trans hw268_3), ((HB.out.cell (World.block_lt_of_cell? w _ hw268_4)).trans hw268_4), ((HB.out.cell (World.block_lt_of_cell? w _ hw268_5)).trans hw268_5), ((HB.out.cell (World.block_lt_of_cell? w _ hw269_0)).trans hw269_0)⟩ (fun hHeld => ?_); refine with_tabW clerestoryref1_Below.tab5 clerestoryref1_Below.bits5 (fun HT_ HW_ => ?_)
    generalize wr.drew = w13 at HO_5 BK263 HB HR268_2 HR268_5 hx268_0 hx268_1 hx268_2 hx268_3 hx268_4 hx268_5 hx269_0 hHeld ⊢
    refine q0s (i := 0) (N := some 20) (v := ?_) (a' := ?_) #[true, false, false, false, false, false, false, false, false, false, false, false, false, false] rfl rfl (q16 HT_.out (by kernel_rfl)) (fun _ _ _ h => h) (Or.inl ⟨by rfl, ?_⟩) ?_ ?_
    rotate_left
    ·intro w'
     go_simp
     with_reducible rfl
    rotate_left
    ·simp only [Act.put, s1, s2, s3, q0d, q0f]
     rfl
    refine q0s (i := 2) (N := some 22) (v := ?_) (a' := ?_) #[true, false, true, false, false, false, false, false, false, false, false, false, false, false] rfl rfl (q16 HT_.out (by kernel_rfl)) (fun _ _ _ h => h) (Or.inl ⟨by rfl, ?_⟩) ?_ ?_
    rotate_left
    ·intro w'
     go_simp
     with_reducible rfl
    rotate_left
    ·simp only [Act.put, s1, s2, s3, q0d, q0f]
     rfl
    refine q0s (i := 4) (N := some 24) (v := ?_) (a' := ?_) #[true, false, true, false, true, false, false, false, false, false, false, false, false, false] rfl rfl (q16 HT_.out (by kernel_rfl)) (fun _ _ _ h => h) (Or.inl ⟨by rfl, ?_⟩) ?_ ?_
    rotate_left
    ·intro w'
     go_simp
     with_reducible rfl
    rotate_left
    ·simp only [Act.put, s1, s2, s3, q0d, q0f]
     rfl
    refine q0s (i := 8) (N := some 28) (v := ?_) (a' := ?_) #[true, false, true, false, true, false, false, false, true, false, false, false, false, false] rfl rfl (q16 HT_.out (by kernel_rfl)) (fun _ _ _ h => h) (Or.inl ⟨by rfl, ?_⟩) ?_ ?_
    rotate_left
    ·intro w'
     go_simp
     with_reducible rfl
    rotate_left
    ·simp only [Act.put, s1, s2, s3, q0d, q0f]
     rfl
    refine take_ (i := 1) (N := some 21) (v := ?_) (a' := ?_) #[true, true, true, false, true, false, false, false, true, false, false, false, false, false] rfl rfl (take_ofW HT_.out HW_.out (by kernel_rfl)) (fun _ _ _ h => h) (Or.inl ⟨by rfl, ?_⟩) hHeld ?_ ?_
    rotate_left
    ·rintro w' ⟨s0, s1, s2, s3, s4, s5, s6, s7, s8⟩
     go_simp
     with_reducible rfl
    rotate_left
    ·simp only [Act.put, s1, s2, s3, q0d, q0f]
     rfl
    refine take_ (i := 3) (N := some 23) (v := ?_) (a' := ?_) #[true, true, true, true, true, false, false, false, true, false, false, false, false, false] rfl rfl (take_ofW HT_.out HW_.out (by kernel_rfl)) (fun _ _ _ h => h) (Or.inl ⟨by rfl, ?_⟩) hHeld ?_ ?_
    rotate_left
    ·rintro w' ⟨s0, s1, s2, s3, s4, s5, s6, s7, s8⟩
     go_simp
     with_reducible rfl
    rotate_left
    ·simp only [Act.put, s1, s2, s3, q0d, q0f]
     rfl
    refine q0s (i := 5) (N := some 25) (v := ?_) (a' := ?_) #[true, true, true, true, true, true, false, false, true, false, false, false, false, false] rfl rfl (q16 HT_.out (by kernel_rfl)) (fun _ _ _ h => h) (Or.inl ⟨by rfl, ?_⟩) ?_ ?_
    rotate_left
    ·intro w'
     go_simp
     with_reducible rfl
    rotate_left
    ·simp only [Act.put, s1, s2, s3, q0d, q0f]
     rfl
    refine q0s (i := 6) (N := some 26) (v := ?_) (a' := ?_) #[true, true, true, true, true, true, true, false, true, false, false, false, false, false] rfl rfl (q16 HT_.out (by kernel_rfl)) (fun _ _ _ h => h) (Or.inl ⟨by rfl, ?_⟩) ?_ ?_
    rotate_left
    ·intro w'
     go_simp
     with_reducible rfl
    rotate_left
    ·simp only [Act.put, s1, s2, s3, q0d, q0f]
     rfl
    refine take_ (i := 7) (N := some 27) (v := ?_) (a' := ?_) #[true, true, true, true, true, true, true, true, true, false, false, false, false, false] rfl rfl (take_ofW HT_.out HW_.out (by kernel_rfl)) (fun _ _ _ h => h) (Or.inl ⟨by rfl, ?_⟩) hHeld ?_ ?_
    rotate_left
    ·rintro w' ⟨s0, s1, s2, s3, s4, s5, s6, s7, s8⟩
     go_simp
     with_reducible rfl
    rotate_left
    ·simp only [Act.put, s1, s2, s3, q0d, q0f]
     rfl
    refine q0s (i := 9) (N := some 29) (v := ?_) (a' := ?_) #[true, true, true, true, true, true, true, true, true, true, false, false, false, false] rfl rfl (q16 HT_.out (by kernel_rfl)) (fun _ _ _ h => h) (Or.inl ⟨by rfl, ?_⟩) ?_ ?_
    rotate_left
    ·intro w'
     go_simp
     with_reducible rfl
    rotate_left
    ·simp only [Act.put, s1, s2, s3, q0d, q0f]
     rfl
    refine take_ (i := 10) (N := some 30) (v := ?_) (a' := ?_) #[true, true, true, true, true, true, true, true, true, true, true, false, false, false] rfl rfl (take_ofW HT_.out HW_.out (by kernel_rfl)) (fun _ _ _ h => h) (Or.inl ⟨by rfl, ?_⟩) hHeld ?_ ?_
    rotate_left
    ·rintro w' ⟨s0, s1, s2, s3, s4, s5, s6, s7, s8⟩
     go_simp
     with_reducible rfl
    rotate_left
    ·simp only [Act.put, s1, s2, s3, q0d, q0f]
     rfl
    refine one_ (i := 11) (N := some 31) #[true, true, true, true, true, true, true, true, true, true, true, true, false, false] rfl rfl (one_of HT_.out (by kernel_rfl)) (by decide) (fun K hK => ?_)
    refine goes_ Tryd.func25 (by kernel_rfl) rfl #[.agg #[.slice (some ad267) l0_0.length c0_0, .bool a0_1], .int .i64 (rd ((q01 l0_0 a1).f5) x6_1)] (by rfl) rfl rfl zc ?_
    with_reducible refine (ih k1 (by have := HK1.out; omega) _ _ l0_0 a0_1 (rd ((q01 l0_0 a1).f5) x6_1) t270 _ ?side1 ?side2 A10.out).mono ?_
    (case side1 => repeat (first | exact (Kd.C_below HR0_0.out HB.out) | (with_reducible refine cA ?_ _) | (with_reducible refine cN ?_ _) | (with_reducible refine cD ?_)))
    (case side2 => exact HC0_0.out)
    rintro e w14 ⟨v271, rfl, ho0, hb⟩
    refine ⟨_, rfl, ?_⟩
    have n0_ := aS (Kd.R_elder' (zf HO_5.out) (Kd.R_base ho0) hb)
    have n1_ := aS (Kd.R_lower (Kd.R_new' ho0 (Kd.R_lt (zf HO_5.out))) (q06 (z6 HB.out GE263.out)))
    have n2_ := aS (q02 (g := gb263) (o := .cells #[.slice (some ad267) l0_0.length c0_0, .bool a0_1] 24 (0, 0)) (za BK263.out) hb)
    have n3_ := aS (q00 (z6 HB.out GE263.out) hb)
    clear HO_5
    clear BK263
    clear HB
    have HO_5 := n0_
    have HO272 := n1_
    have BK263 := n2_
    have HB := n3_
    clear n0_ n1_ n2_ n3_
    (try clear hb)
    (try clear hb2)
    (try clear hk)
    (try clear hi)
    (try clear ho0)
    obtain ⟨Ao16, co16, eo16⟩ := Kd.R_slice HO272.out
    (first | subst eo16 | (injection eo16 with f1_ f2_ f3_; have f4_ := f1_.symm; have f5_ := f3_.symm; clear f1_ f2_ f3_; subst f4_; subst f5_))
    refine hK.out _ _ ⟨(q09 BK263.out 0).trans rfl, (q09 BK263.out 1).trans rfl, ((HB.out.cell (World.block_lt_of_cell? w _ hw268_0)).trans hw268_0), ((HB.out.cell (World.block_lt_of_cell? w _ hw268_1)).trans hw268_1), ((HB.out.cell (World.block_lt_of_cell? w _ hw268_2)).trans hw268_2), ((HB.out.cell (World.block_lt_of_cell? w _ hw268_3)).trans hw268_3), ((HB.out.cell (World.block_lt_of_cell? w _ hw268_4)).trans hw268_4), ((HB.out.cell (World.block_lt_of_cell? w _ hw268_5)).trans hw268_5), ((HB.out.cell (World.block_lt_of_cell? w _ hw269_0)).trans hw269_0)⟩ (fun hHeld => ?_)
    clear hK K
    refine norm_ (a' := ?_) ?_ ?_
    rotate_left
    ·show Act.put _ (some 31) _ = _
     simp only [Act.put, s1, s2, s3, q0d, q0f]
     rfl
    refine one_ (i := 12) (N := some 32) #[true, true, true, true, true, true, true, true, true, true, true, true, true, false] rfl rfl (one_of HT_.out (by kernel_rfl)) (by decide) (fun K hK => ?_)
    refine Kd.R_append_rows_step (Kd.int .i64) (w0 := w) w.heap.size (by rfl) (.tmp 20) (.tmp 31) 31 3 (.int .i64 0) 8 rfl Tryd.underlying31 info3 rfl (by decide) (by omega) u5 x5_1 t270 _ _ _ (fun k_ => some k_ ≠ (.slice Ao16 t270.length co16 : Value).ownBlock) (fun _ => False) rfl rfl ?aO ?aR (fun _ _ h => h) (fun _ h => h.elim) ?aF ?aB ?aS ?aL ?_
    (case aR => repeat (first | exact (Kd.R_reads' HO272.out).2.2 | (with_reducible refine cA ?_ _) | (with_reducible refine cN ?_ _) | (with_reducible refine cD ?_)))
    (case aB => exact (z6 HB.out GE263.out))
    (case aF => exact (fun k_ hk => Kd.fresh' (Kd.R_lt (zf HO272.out)) k_ hk))
    (case aO => exact (by (with_reducible repeat (first | apply rA | apply rN | apply rD)); exact Kd.R_mono HO_5.out (fun _ hk => hk.2)))
    (case aS => exact (q06 (z6 HB.out GE263.out)))
    (case aL => have := LMc11.out; omega)
    intro v274 w15 ho hb hg hat
    rw [← Ny273.out] at ho
    have n0_ := aS (blk_grown (g := gb263) (o := .cells #[.slice (some ad267) l0_0.length c0_0, .bool a0_1] 24 (0, 0)) (za BK263.out) hg (Kd.R_ne HO_5.out BK263.out (by decide)))
    have n1_ := aS (Kd.R_after (ok := (fun _ => True)) (zf HO272.out) hg hat)
    have n2_ := aS (hb)
    have n3_ := aS (ho)
    clear BK263
    clear HO272
    clear HB
    clear HO_5
    have BK263 := n0_
    have HO272 := n1_
    have HB := n2_
    have HO275 := n3_
    clear n0_ n1_ n2_ n3_
    clear ho hb hg hat
    refine hK.out _ _ ⟨(q09 BK263.out 0).trans rfl, (q09 BK263.out 1).trans rfl, ((HB.out.cell (World.block_lt_of_cell? w _ hw268_0)).trans hw268_0), ((HB.out.cell (World.block_lt_of_cell? w _ hw268_1)).trans hw268_1), ((HB.out.cell (World.block_lt_of_cell? w _ hw268_2)).trans hw268_2), ((HB.out.cell (World.block_lt_of_cell? w _ hw268_3)).trans hw268_3), ((HB.out.cell (World.block_lt_of_cell? w _ hw268_4)).trans hw268_4), ((HB.out.cell (World.block_lt_of_cell? w _ hw268_5)).trans hw268_5), ((HB.out.cell (World.block_lt_of_cell? w _ hw269_0)).trans hw269_0)⟩ (fun hHeld => ?_)
    clear hK K
    refine norm_ (a' := ?_) ?_ ?_
    rotate_left
    ·show Act.put _ (some 32) _ = _
     simp only [Act.put, s1, s2, s3, q0d, q0f]
     rfl
    refine q0s (i := 13) (N := some 5) (v := ?_) (a' := ?_) #[true, true, true, true, true, true, true, true, true, true, true, true, true, true] rfl rfl (q16 HT_.out (by kernel_rfl)) (fun _ _ _ h => h) (Or.inl ⟨by rfl, ?_⟩) ?_ ?_
    rotate_left
    ·intro w'
     go_simp
     with_reducible rfl
    rotate_left
    ·simp only [Act.put, s1, s2, s3, q0d, q0f]
     rfl
    refine done_ (done_of HT_.out (by kernel_rfl)) ?_
    try go_wp2
    go_roundg k1
    case measure => have := HK1.out; omega
    case rel => exact ⟨(y273), (wrap64 (x6_1 + 1)), zi, H', ⟨by have := HK1.out; omega⟩, ⟨by (with_reducible repeat (first | apply rA | apply rN | apply rD)); exact Kd.R_mono HO275.out (fun _ hk => trivial)⟩, ⟨by (with_reducible repeat (first | refine kN ?_ _ | refine kD ?_ | refine kA ?_ _)); exact BK263.out⟩, ⟨by repeat (first | (with_reducible first | exact HB.out | apply bA | apply bN | apply bD | refine bS ?_ GE263.out) | exact HB.out)⟩⟩
   case n8 =>
    obtain rfl := Option.some.inj H
    obtain ⟨hczL_0, hczL_1, hfzL_0, hfzL_1⟩ := bk2 BK263.out
    obtain ⟨ad267, A267_2, c267_2, A267_5, c267_5, e267, hx267_0, hx267_1, hx267_2, hx267_3, hx267_4, hx267_5, HC267_2, HR267_2, HC267_5, HR267_5, p267, q267⟩ := q0h HB.out HR0_0.out a1 zb zb
    cases e267
    go_wp2
    go_ret
    exact ⟨_, by first | rfl | (simp [q04, q03] <;> rfl) | (simp [*, q04, q03] <;> rfl), by (with_reducible repeat (first | apply rA | apply rN | apply rD)); exact HO_5.out, by repeat (first | (with_reducible first | exact HB.out | apply bA | apply bN | apply bD | refine bS ?_ GE263.out) | exact HB.out)⟩
def clerestoryref1_Under.l0 : Nat → Int → Int → List (S43) → Bool → Option (Bool)
 | 0, _, _, _, _ => none
 | k + 1, x1, x2, x277000, x277001 => if x1 = x2 then (some (x1 == x2)) else (if x1 ≥ 0 then (if 0 ≤ x1 then (if x1 < (x277000.length : Int) then (clerestoryref1_Under.l0 k ((q01 x277000 x1).f4) x2 x277000 x277001) else (none)) else (none)) else (some (x1 == x2)))
def clerestoryref1_Under.f (k : Nat) (l0_0 : List (S43)) (a0_1 : Bool) (a1 : Int) (a2 : Int) : Option (Bool) := clerestoryref1_Under.l0 k a1 a2 l0_0 a0_1
theorem clerestoryref1_Under.mono_l : ∀ k, (∀ y0 y1 y2 y3, LeO (clerestoryref1_Under.l0 k y0 y1 y2 y3) (clerestoryref1_Under.l0 (k + 1) y0 y1 y2 y3))
 | 0 => fun _ _ _ _ r h => by simp [clerestoryref1_Under.l0] at h
 | k + 1 => by
  have ih0 := clerestoryref1_Under.mono_l k
  ·intro y0 y1 y2 y3
   unfold clerestoryref1_Under.l0
   repeat' first | with_reducible first | apply ih0 | exact LeO.refl _ | exact LeO.none _ | refine LeO.ite ?_ ?_ | refine LeO.bind ?_ (fun _ => ?_) | (first | apply ih0 | exact LeO.none _ | refine LeO.ite ?_ ?_ | refine LeO.bind ?_ (fun _ => ?_))
theorem clerestoryref1_Under.mono : ∀ a0 a1 a2 a3 k, LeO (clerestoryref1_Under.f k a0 a1 a2 a3) (clerestoryref1_Under.f (k + 1) a0 a1 a2 a3) := by
 intro a0 a1 a2 a3 k
 have ih0 := clerestoryref1_Under.mono_l k
 unfold clerestoryref1_Under.f
 repeat' first | with_reducible first | apply ih0 | exact LeO.refl _ | exact LeO.none _ | refine LeO.ite ?_ ?_ | refine LeO.bind ?_ (fun _ => ?_) | (first | apply ih0 | exact LeO.none _ | refine LeO.ite ?_ ?_ | refine LeO.bind ?_ (fun _ => ?_))
set_option maxHeartbeats 8000000 in
set_option maxRecDepth 100000 in
theorem clerestoryref1_Under.calls (k : Nat) (A0_0 : Option Addr) (c0_0 : Nat) (l0_0 : List (S43)) (a0_1 : Bool) (a1 : Int) (a2 : Int) (r : Bool) (w : World) (hr0_0 : Kd.C k43 w A0_0 l0_0.length l0_0) (hc0_0 : l0_0.length ≤ c0_0) (h : clerestoryref1_Under.f k l0_0 a0_1 a1 a2 = some r) :
 Calls Tryd.prog 26 #[.agg #[.slice A0_0 l0_0.length c0_0, .bool a0_1], .int .i64 a1, .int .i64 a2] w fun e w' => e = .returned (.bool r) ∧ Below w.heap.size w w' := by
 have hu24 := Tryd.underlying24
 have HR0_0 := aS hr0_0
 have HC0_0 := aS hc0_0
 clear hr0_0 hc0_0
 have HB := aS (Below.refl w.heap.size w)
 have H := h; clear h; unfold clerestoryref1_Under.f at H
 have H' := aS H
 clear H
 go_enter Tryd.func26, Tryd.ntmps26
 go_wp2_with (first | ((with_reducible refine q05 (N := 3) rfl ?_); refine box0 rfl (N := 3) rfl (cs := #[.slice A0_0 l0_0.length c0_0, .bool a0_1]) (t := 24) zh (z7 HB.out) ?_; clear HB; intro gb276 w4 BK276 GW276 HB; have GE276 := GW276))
 go_loopg [1] k (fun kq v1 w' => ∃ (x1_1 : Int), v1 = .int .i64 x1_1 ∧ Aside0 (clerestoryref1_Under.l0 kq x1_1 a2 l0_0 a0_1 = some r) ∧ Aside0 (kq ≤ k) ∧ Aside0 (w'.heap[gb276]? = some (.cells #[(.slice A0_0 l0_0.length c0_0), .bool a0_1] 24 (0, 0))) ∧ Aside0 (Below w.heap.size w w'))
 case atStart => exact ⟨(a1), zi, H', ⟨Nat.le_refl _⟩, ⟨by (with_reducible repeat (first | refine kN ?_ _ | refine kD ?_ | refine kA ?_ _)); exact BK276.out⟩, ⟨by repeat (first | (with_reducible first | exact HB.out | apply bA | apply bN | apply bD | refine bS ?_ GE276.out) | exact HB.out)⟩⟩
 case round =>
  clear H'
  obtain ⟨x1_1, rfl, HA, HK1, BK276, HB⟩ := hrel
  cases gk with
  | zero => exact absurd HA.out (by simp [clerestoryref1_Under.l0])
  | succ k1 =>
   have H := HA.out
   clear HA
   simp only [clerestoryref1_Under.l0] at H
   refine iE H ?p5 ?n5 <;> clear H
   case' p5 => intro c5b0 c5b1 H
   case' n5 => intro c5 c5b0 c5b1 H; refine iL H ?p6 ?n6 <;> clear H
   case' p6 => intro c6b0 H; obtain ⟨hczL_0, hczL_1, hfzL_0, hfzL_1⟩ := bk2 BK276.out; refine iLp H ?_; clear H; intro c7b0 H; refine iTp H ?_; clear H; intro c8b0 H
   case' n6 => intro c6b0 H
   case p5|n6 =>
    obtain rfl := Option.some.inj H
    go_wp2
    go_ret
    exact ⟨by first | rfl | (simp [q04, q03] <;> rfl) | (simp [*, q04, q03] <;> rfl), by repeat (first | (with_reducible first | exact HB.out | apply bA | apply bN | apply bD | refine bS ?_ GE276.out) | exact HB.out)⟩
   case p6 =>
    have H' := aS H
    clear H
    obtain ⟨ad277, A277_2, c277_2, A277_5, c277_5, e277, hx277_0, hx277_1, hx277_2, hx277_3, hx277_4, hx277_5, HC277_2, HR277_2, HC277_5, HR277_5, p277, q277⟩ := q0h HB.out HR0_0.out x1_1 zb zb
    cases e277
    go_wp2
    go_roundg k1
    case measure => have := HK1.out; omega
    case rel => exact ⟨((q01 l0_0 x1_1).f4), zi, H', ⟨by have := HK1.out; omega⟩, ⟨by (with_reducible repeat (first | refine kN ?_ _ | refine kD ?_ | refine kA ?_ _)); exact BK276.out⟩, ⟨by repeat (first | (with_reducible first | exact HB.out | apply bA | apply bN | apply bD | refine bS ?_ GE276.out) | exact HB.out)⟩⟩
def dom_ask.f (k : Nat) (l0_0 : List (S43)) (a0_1 : Bool) (a1 : Int) : Option (Int) := (dom_Check.f k l0_0 a0_1).bind fun t279 => (if t279 = 0 then (if a1 < 0 then (some 1) else (if a1 ≥ (l0_0.length : Int) then (some 1) else (some t279))) else (some t279))
theorem dom_ask.mono : ∀ a0 a1 a2 k, LeO (dom_ask.f k a0 a1 a2) (dom_ask.f (k + 1) a0 a1 a2) := by
 intro a0 a1 a2 k
 unfold dom_ask.f
 repeat' first | with_reducible first | apply dom_Check.mono | exact LeO.refl _ | exact LeO.none _ | refine LeO.ite ?_ ?_ | refine LeO.bind ?_ (fun _ => ?_) | (first | apply dom_Check.mono | exact LeO.none _ | refine LeO.ite ?_ ?_ | refine LeO.bind ?_ (fun _ => ?_))
set_option maxHeartbeats 8000000 in
set_option maxRecDepth 100000 in
theorem dom_ask.calls (k : Nat) (A0_0 : Option Addr) (c0_0 : Nat) (l0_0 : List (S43)) (a0_1 : Bool) (a1 : Int) (r : Int) (w : World) (hr0_0 : Kd.C k43 w A0_0 l0_0.length l0_0) (hc0_0 : l0_0.length ≤ c0_0) (h : dom_ask.f k l0_0 a0_1 a1 = some r) :
 Calls Tryd.prog 110 #[.agg #[.slice A0_0 l0_0.length c0_0, .bool a0_1], .int .i64 a1] w fun e w' => e = .returned (.int .i64 r) ∧ Below w.heap.size w w' := by
 have hu24 := Tryd.underlying24
 have HR0_0 := aS hr0_0
 have HC0_0 := aS hc0_0
 clear hr0_0 hc0_0
 have HB := aS (Below.refl w.heap.size w)
 have H := h; clear h; unfold dom_ask.f at H
 replace H := iB H
 obtain ⟨t279, A3, H⟩ := H
 refine iE H ?p4 ?n4 <;> clear H
 case' p4 => intro c4b0 c4b1 H; refine iT H ?p5 ?n5 <;> clear H
 case' p5 => intro c5b0 H
 case' n5 => intro c5b0 H; refine iL H ?p9 ?n9 <;> clear H
 case' p9 => intro c9b0 H
 case' n9 => intro c9b0 H
 case' n4 => intro c4 c4b0 c4b1 H
 case p5 =>
  obtain rfl := Option.some.inj H
  go_enter Tryd.func110, Tryd.ntmps110
  go_wp2_with (first | ((with_reducible refine q05 (N := 2) rfl ?_); (try (refine q0i (by rfl) ?_; dsimp only)); refine box0 rfl (N := 2) rfl (cs := #[.slice A0_0 l0_0.length c0_0, .bool a0_1]) (t := 24) zh (z7 HB.out) ?_; clear HB; intro gb278 w6 BK278 GW278 HB; have GE278 := GW278; obtain ⟨hczL_0, hczL_1, hfzL_0, hfzL_1⟩ := bk2 BK278.out) | ((with_reducible refine q07 (f := 52) rfl ?_); refine q0j (some 7) rfl rfl Tryd.func52 (by kernel_rfl) rfl #[.agg #[.slice A0_0 l0_0.length c0_0, .bool a0_1]] rfl zc ?_; (with_reducible refine (dom_Check.calls k _ _ l0_0 a0_1 t279 _ ?side1 ?side2 A3.out).mono ?_); (case side1 => repeat (first | exact (Kd.C_below HR0_0.out HB.out) | (with_reducible refine cA ?_ _) | (with_reducible refine cN ?_ _) | (with_reducible refine cD ?_))); (case side2 => exact HC0_0.out); rintro e w8 ⟨rfl, hb⟩; refine ⟨_, rfl, ?_⟩; replace BK278 := aS (q02 (g := gb278) (o := .cells #[.slice A0_0 l0_0.length c0_0, .bool a0_1] 24 (0, 0)) (za BK278.out) hb); replace HB := aS (q00 (z6 HB.out GE278.out) hb); (try clear hb); (try clear hb2); (try clear hk); (try clear hi)))
  go_ret
  exact ⟨by first | rfl | (simp [q04, q03] <;> rfl) | (simp [*, q04, q03] <;> rfl), by repeat (first | (with_reducible first | exact HB.out | apply bA | apply bN | apply bD | refine bS ?_ GE278.out) | exact HB.out)⟩
 case p9 =>
  obtain rfl := Option.some.inj H
  go_enter Tryd.func110, Tryd.ntmps110
  go_wp2_with (first | ((with_reducible refine q05 (N := 2) rfl ?_); (try (refine q0i (by rfl) ?_; dsimp only)); refine box0 rfl (N := 2) rfl (cs := #[.slice A0_0 l0_0.length c0_0, .bool a0_1]) (t := 24) zh (z7 HB.out) ?_; clear HB; intro gb278 w10 BK278 GW278 HB; have GE278 := GW278; obtain ⟨hczL_0, hczL_1, hfzL_0, hfzL_1⟩ := bk2 BK278.out) | ((with_reducible refine q07 (f := 52) rfl ?_); refine q0j (some 7) rfl rfl Tryd.func52 (by kernel_rfl) rfl #[.agg #[.slice A0_0 l0_0.length c0_0, .bool a0_1]] rfl zc ?_; (with_reducible refine (dom_Check.calls k _ _ l0_0 a0_1 t279 _ ?side1 ?side2 A3.out).mono ?_); (case side1 => repeat (first | exact (Kd.C_below HR0_0.out HB.out) | (with_reducible refine cA ?_ _) | (with_reducible refine cN ?_ _) | (with_reducible refine cD ?_))); (case side2 => exact HC0_0.out); rintro e w12 ⟨rfl, hb⟩; refine ⟨_, rfl, ?_⟩; replace BK278 := aS (q02 (g := gb278) (o := .cells #[.slice A0_0 l0_0.length c0_0, .bool a0_1] 24 (0, 0)) (za BK278.out) hb); replace HB := aS (q00 (z6 HB.out GE278.out) hb); (try clear hb); (try clear hb2); (try clear hk); (try clear hi); obtain ⟨hczL_0, hczL_1, hfzL_0, hfzL_1⟩ := bk2 BK278.out))
  go_ret
  exact ⟨by first | rfl | (simp [q04, q03] <;> rfl) | (simp [*, q04, q03] <;> rfl), by repeat (first | (with_reducible first | exact HB.out | apply bA | apply bN | apply bD | refine bS ?_ GE278.out) | exact HB.out)⟩
 case n9 =>
  obtain rfl := Option.some.inj H
  go_enter Tryd.func110, Tryd.ntmps110
  go_wp2_with (first | ((with_reducible refine q05 (N := 2) rfl ?_); (try (refine q0i (by rfl) ?_; dsimp only)); refine box0 rfl (N := 2) rfl (cs := #[.slice A0_0 l0_0.length c0_0, .bool a0_1]) (t := 24) zh (z7 HB.out) ?_; clear HB; intro gb278 w14 BK278 GW278 HB; have GE278 := GW278; obtain ⟨hczL_0, hczL_1, hfzL_0, hfzL_1⟩ := bk2 BK278.out) | ((with_reducible refine q07 (f := 52) rfl ?_); refine q0j (some 7) rfl rfl Tryd.func52 (by kernel_rfl) rfl #[.agg #[.slice A0_0 l0_0.length c0_0, .bool a0_1]] rfl zc ?_; (with_reducible refine (dom_Check.calls k _ _ l0_0 a0_1 t279 _ ?side1 ?side2 A3.out).mono ?_); (case side1 => repeat (first | exact (Kd.C_below HR0_0.out HB.out) | (with_reducible refine cA ?_ _) | (with_reducible refine cN ?_ _) | (with_reducible refine cD ?_))); (case side2 => exact HC0_0.out); rintro e w16 ⟨rfl, hb⟩; refine ⟨_, rfl, ?_⟩; replace BK278 := aS (q02 (g := gb278) (o := .cells #[.slice A0_0 l0_0.length c0_0, .bool a0_1] 24 (0, 0)) (za BK278.out) hb); replace HB := aS (q00 (z6 HB.out GE278.out) hb); (try clear hb); (try clear hb2); (try clear hk); (try clear hi); obtain ⟨hczL_0, hczL_1, hfzL_0, hfzL_1⟩ := bk2 BK278.out))
  go_ret
  exact ⟨by first | rfl | (simp [q04, q03] <;> rfl) | (simp [*, q04, q03] <;> rfl), by repeat (first | (with_reducible first | exact HB.out | apply bA | apply bN | apply bD | refine bS ?_ GE278.out) | exact HB.out)⟩
 case n4 =>
  obtain rfl := Option.some.inj H
  go_enter Tryd.func110, Tryd.ntmps110
  go_wp2_with (first | ((with_reducible refine q05 (N := 2) rfl ?_); (try (refine q0i (by rfl) ?_; dsimp only)); refine box0 rfl (N := 2) rfl (cs := #[.slice A0_0 l0_0.length c0_0, .bool a0_1]) (t := 24) zh (z7 HB.out) ?_; clear HB; intro gb278 w18 BK278 GW278 HB; have GE278 := GW278; obtain ⟨hczL_0, hczL_1, hfzL_0, hfzL_1⟩ := bk2 BK278.out) | ((with_reducible refine q07 (f := 52) rfl ?_); refine q0j (some 7) rfl rfl Tryd.func52 (by kernel_rfl) rfl #[.agg #[.slice A0_0 l0_0.length c0_0, .bool a0_1]] rfl zc ?_; (with_reducible refine (dom_Check.calls k _ _ l0_0 a0_1 t279 _ ?side1 ?side2 A3.out).mono ?_); (case side1 => repeat (first | exact (Kd.C_below HR0_0.out HB.out) | (with_reducible refine cA ?_ _) | (with_reducible refine cN ?_ _) | (with_reducible refine cD ?_))); (case side2 => exact HC0_0.out); rintro e w20 ⟨rfl, hb⟩; refine ⟨_, rfl, ?_⟩; replace BK278 := aS (q02 (g := gb278) (o := .cells #[.slice A0_0 l0_0.length c0_0, .bool a0_1] 24 (0, 0)) (za BK278.out) hb); replace HB := aS (q00 (z6 HB.out GE278.out) hb); (try clear hb); (try clear hb2); (try clear hk); (try clear hi)))
  go_ret
  exact ⟨by first | rfl | (simp [q04, q03] <;> rfl) | (simp [*, q04, q03] <;> rfl), by repeat (first | (with_reducible first | exact HB.out | apply bA | apply bN | apply bD | refine bS ?_ GE278.out) | exact HB.out)⟩
def slices_Reverse_int_int.l0 : Nat → List Int → Int → Int → Option (List Int)
 | 0, _, _, _ => none
 | k + 1, x0, x2, x3 => if x2 < x3 then (if 0 ≤ x3 then (if x3 < (x0.length : Int) then (if 0 ≤ x2 then (if x2 < (x0.length : Int) then (slices_Reverse_int_int.l0 k ((x0.set (x2 : Int).toNat (rd x0 x3)).set (x3 : Int).toNat (rd x0 x2)) (wrap64 (x2 + 1)) (wrap64 (x3 - 1))) else (none)) else (none)) else (none)) else (none)) else (some x0)
def slices_Reverse_int_int.f (k : Nat) (l0 : List Int) : Option (List Int) := slices_Reverse_int_int.l0 k l0 0 (wrap64 ((l0.length : Int) - 1))
theorem slices_Reverse_int_int.mono_l : ∀ k, (∀ y0 y1 y2, LeO (slices_Reverse_int_int.l0 k y0 y1 y2) (slices_Reverse_int_int.l0 (k + 1) y0 y1 y2))
 | 0 => fun _ _ _ r h => by simp [slices_Reverse_int_int.l0] at h
 | k + 1 => by
  have ih0 := slices_Reverse_int_int.mono_l k
  ·intro y0 y1 y2
   unfold slices_Reverse_int_int.l0
   repeat' first | with_reducible first | apply ih0 | exact LeO.refl _ | exact LeO.none _ | refine LeO.ite ?_ ?_ | refine LeO.bind ?_ (fun _ => ?_) | (first | apply ih0 | exact LeO.none _ | refine LeO.ite ?_ ?_ | refine LeO.bind ?_ (fun _ => ?_))
theorem slices_Reverse_int_int.mono : ∀ a0 k, LeO (slices_Reverse_int_int.f k a0) (slices_Reverse_int_int.f (k + 1) a0) := by
 intro a0 k
 have ih0 := slices_Reverse_int_int.mono_l k
 unfold slices_Reverse_int_int.f
 repeat' first | with_reducible first | apply ih0 | exact LeO.refl _ | exact LeO.none _ | refine LeO.ite ?_ ?_ | refine LeO.bind ?_ (fun _ => ?_) | (first | apply ih0 | exact LeO.none _ | refine LeO.ite ?_ ?_ | refine LeO.bind ?_ (fun _ => ?_))
def slices_Reverse_int_int.T3 : Bool × List (List Nat × List Nat) := (true, [([], []), ([], []), ([], []), ([], []), ([], []), ([], []), ([4, 5], [4, 5]), ([6], [6]), ([], []), ([], []), ([8, 9], [8, 9]), ([10], [10]), ([0, 1, 0, 1, 4, 5, 6, 7, 11], [0, 1]), ([12, 7, 0, 1, 4, 5, 6, 7, 11], [7, 12]), ([2, 3, 0, 1, 2, 3, 4, 5, 6, 7, 8, 9, 10, 11, 12, 13], [2, 3]), ([14, 11, 13, 0, 1, 2, 3, 4, 5, 6, 7, 8, 9, 10, 11, 12, 13], [11, 14])])
def slices_Reverse_int_int.B3 : List Nat := [0, 0, 0, 0, 0, 0, 48, 112, 0, 0, 768, 1792, 4083, 8179, 16383, 32767]
theorem slices_Reverse_int_int.tab3 : rtab .any (opsOf Tryd.f111 3) = slices_Reverse_int_int.T3 := by kernel_rfl
theorem slices_Reverse_int_int.bits3 : waitsOk slices_Reverse_int_int.T3.2 slices_Reverse_int_int.B3 = true := by kernel_rfl
set_option maxHeartbeats 8000000 in
set_option maxRecDepth 100000 in
theorem slices_Reverse_int_int.calls (k : Nat) (P0_ : Nat → Prop) (u9000_ : Value) (l0 : List Int) (r : List Int) (w0 w : World) (hB : Below w0.heap.size w0 w) (ho0 : Kd.R (Kd.int .i64) 3 w w0.heap.size P0_ u9000_ l0) (h : slices_Reverse_int_int.f k l0 = some r) :
 Calls Tryd.prog 111 #[u9000_] w fun e w' => e = .returned (.tuple #[]) ∧ Kd.R (Kd.int .i64) 3 w' w0.heap.size (fun k_ => (P0_ k_ ∨ w.heap.size ≤ k_)) u9000_ r ∧ Below w0.heap.size w0 w' ∧ Kept w w' (fun k_ => P0_ k_) := by
 have HO0 := aS (show Kd.R (Kd.int .i64) 3 w w0.heap.size (fun k_ => (P0_ k_ ∨ w.heap.size ≤ k_)) u9000_ l0 from Kd.R_mono ho0 (fun k_ hk => (.inl hk)))
 have HK := aS (Kept.refl w (fun k_ => P0_ k_))
 have HW0 := aS hB.size
 have HB := aS hB
 clear hB
 have H : (slices_Reverse_int_int.l0 k l0 0 (wrap64 ((l0.length : Int) - 1))) = some r := h
 clear h
 have H' := aS H
 clear H
 obtain ⟨Ao2, co2, eo2⟩ := Kd.R_slice HO0.out
 subst eo2
 go_enter Tryd.func111, Tryd.ntmps111
 go_wp2
 go_loopg [2, 3] k (fun kq v2 v3 w' => ∃ (x0_1 : List Int) (x2_1 : Int) (x3_1 : Int), v2 = .int .i64 x2_1 ∧ v3 = .int .i64 x3_1 ∧ Aside0 (slices_Reverse_int_int.l0 kq x0_1 x2_1 x3_1 = some r) ∧ Aside0 (kq ≤ k) ∧ Aside0 (Kd.R (Kd.int .i64) 3 w' w0.heap.size (fun k_ => (P0_ k_ ∨ w.heap.size ≤ k_)) (.slice Ao2 l0.length co2) x0_1) ∧ Aside0 (Kept w w' (fun k_ => P0_ k_)) ∧ Aside0 (Below w0.heap.size w0 w'))
 case atStart => exact ⟨(l0), (0), (wrap64 ((l0.length : Int) - 1)), zi, zi, H', ⟨Nat.le_refl _⟩, ⟨by (with_reducible repeat (first | apply rA | apply rN | apply rD)); exact HO0.out⟩, ⟨by repeat (first | (with_reducible first | exact HK.out | apply Kept.alloc | apply Kept.drewN | apply Kept.drew) | exact HK.out)⟩, ⟨by repeat (first | (with_reducible first | exact HB.out | apply bA | apply bN | apply bD) | exact HB.out)⟩⟩
 case round =>
  clear H'
  try clear c1
  try clear p2
  obtain ⟨x0_1, x2_1, x3_1, rfl, rfl, HA, HK1, HO_0, HK, HB⟩ := hrel
  have hl0_1 := (Kd.R_reads' HO_0.out).1
  rw [hl0_1] at HO_0
  (try simp only [hl0_1])
  cases gk with
  | zero => exact absurd HA.out (by simp [slices_Reverse_int_int.l0])
  | succ k1 =>
   have H := HA.out
   clear HA
   simp only [slices_Reverse_int_int.l0] at H
   by_cases c3 : x2_1 < x3_1
   ·rw [if_pos c3] at H
    have c3b0 : decide (x2_1 < x3_1) = true := decide_eq_true c3
    clear c3
    by_cases c4 : 0 ≤ x3_1
    ·rw [if_pos c4] at H
     have c4b0 : decide (0 ≤ x3_1) = true := decide_eq_true c4
     clear c4
     by_cases c5 : x3_1 < (x0_1.length : Int)
     ·rw [if_pos c5] at H
      have c5b0 : decide (x3_1 < (x0_1.length : Int)) = true := decide_eq_true c5
      clear c5
      by_cases c6 : 0 ≤ x2_1
      ·rw [if_pos c6] at H
       have c6b0 : decide (0 ≤ x2_1) = true := decide_eq_true c6
       clear c6
       by_cases c7 : x2_1 < (x0_1.length : Int)
       ·rw [if_pos c7] at H
        have c7b0 : decide (x2_1 < (x0_1.length : Int)) = true := decide_eq_true c7
        clear c7
        obtain ⟨y282, hy282⟩ : ∃ y_ : List Int, y_ = (x0_1.set (x2_1 : Int).toNat (rd x0_1 x3_1)) := ⟨_, rfl⟩
        replace H : (slices_Reverse_int_int.l0 k1 (y282.set (x3_1 : Int).toNat (rd x0_1 x2_1)) (wrap64 (x2_1 + 1)) (wrap64 (x3_1 - 1))) = some r := by first | (rw [hy282]; with_reducible exact H) | (have H2_ := (Option.bind_some _ _).symm.trans H; rw [hy282]; with_reducible exact H2_) | (have H2_ := (Option.bind_some _ _).symm.trans H; with_reducible exact H2_) | with_reducible exact H | (rw [hy282]; exact H) | exact H
        have Ny282 := aS hy282
        clear hy282
        obtain ⟨y283, hy283⟩ : ∃ y_ : List Int, y_ = (y282.set (x3_1 : Int).toNat (rd x0_1 x2_1)) := ⟨_, rfl⟩
        replace H : (slices_Reverse_int_int.l0 k1 y283 (wrap64 (x2_1 + 1)) (wrap64 (x3_1 - 1))) = some r := by first | (rw [hy283]; with_reducible exact H) | (have H2_ := (Option.bind_some _ _).symm.trans H; rw [hy283]; with_reducible exact H2_) | (have H2_ := (Option.bind_some _ _).symm.trans H; with_reducible exact H2_) | with_reducible exact H | (rw [hy283]; exact H) | exact H
        have Ny283 := aS hy283
        clear hy283
        have H' := aS H
        clear H
        try go_wp2
        have n0_ := aS (Kd.R_drew HO_0.out)
        have n1_ := aS (Kept.drew HK.out)
        have n2_ := aS (below_drew1 HB.out)
        clear HO_0
        clear HK
        clear HB
        have HO_0 := n0_
        have HK := n1_
        have HB := n2_
        clear n0_ n1_ n2_
        have p280 : 0 ≤ (x3_1 : Int) := od zb
        have q280 : x3_1 < (x0_1.length : Int) := od zb
        obtain ⟨ad280, e280, hx280_0⟩ := Kd.at_int (Kd.R_reads' HO_0.out).2.2 x3_1 p280 q280
        cases e280
        replace p280 := eq_true p280
        replace q280 := eq_true q280
        have p281 : 0 ≤ (x2_1 : Int) := od zb
        have q281 : x2_1 < (x0_1.length : Int) := od zb
        obtain ⟨ad281, e281, hx281_0⟩ := Kd.at_int (Kd.R_reads' HO_0.out).2.2 x2_1 p281 q281
        obtain rfl : ad280 = ad281 := (by injection e281)
        replace p281 := eq_true p281
        replace q281 := eq_true q281
        have p8 : 0 ≤ (x2_1 : Int) := od zb
        have q8 : (x2_1 : Int) < ((x0_1.length : Int) : Int) := od zb
        obtain ⟨go8, co8, eo8, gb8, gl8, cl8, HG8⟩ := Kd.R_form HO_0.out (by omega)
        (first | cases eo8 | (injection eo8 with ea_ en_ ec_; (first | subst ea_ | (injection ea_ with ea_; subst ea_)); subst ec_; clear en_))
        have GB8 := aS gb8
        have GG8 := aS HG8
        clear gb8 gl8 HG8
        have HMgo8 := aS (show (P0_ go8 ∨ w.heap.size ≤ go8) from (HO_0.out.1 _ rfl))
        (first | simp only [q1o] at hx280_0 | skip)
        (first | simp only [q1o] at hx281_0 | skip)
        obtain ⟨hx8_0, hf8_0⟩ := Kd.R_celln 0 HO_0.out (x2_1 : Int) p8 q8
        replace p8 := eq_true p8
        replace q8 := eq_true q8
        have HP11 := Kd.R_putn HO_0.out (x2_1 : Int) (rd x0_1 x3_1)
        rw [← Ny282.out] at HP11
        have HQ11 := aS HP11
        clear HP11
        have p9 : 0 ≤ (x3_1 : Int) := od zb
        have q9 : (x3_1 : Int) < ((x0_1.length : Int) : Int) := od zb
        obtain ⟨hx9_0, hf9_0⟩ := Kd.R_celln 0 HQ11.out (x3_1 : Int) p9 q9
        replace p9 := eq_true p9
        replace q9 := eq_true q9
        have HP12 := Kd.R_putn HQ11.out (x3_1 : Int) (rd x0_1 x2_1)
        rw [← Ny283.out] at HP12
        have HQ12 := aS HP12
        clear HP12
        refine start_ (n := 16) (S := fun w' => w'.cell? ⟨go8, (x3_1).toNat, none⟩ = some (.int .i64 (rd x0_1 x3_1)) ∧ w'.cell? ⟨go8, (x2_1).toNat, none⟩ = some (.int .i64 (rd x0_1 x2_1))) (ds := [13, 15]) #[false, false, false, false, false, false, false, false, false, false, false, false, false, false, false, false] (by kernel_rfl) rfl rfl ⟨hx280_0, hx281_0⟩ (fun hHeld => ?_); refine with_tabW slices_Reverse_int_int.tab3 slices_Reverse_int_int.bits3 (fun HT_ HW_ => ?_)
        generalize wr.drew = w10 at HO_0 HK HB GG8 HQ11 HQ12 hf8_0 hf9_0 hx280_0 hx281_0 hx8_0 hx9_0 hHeld ⊢
        refine q0s (i := 0) (N := some 14) (v := ?_) (a' := ?_) #[true, false, false, false, false, false, false, false, false, false, false, false, false, false, false, false] rfl rfl (q16 HT_.out (by kernel_rfl)) (fun _ _ _ h => h) (Or.inl ⟨by rfl, ?_⟩) ?_ ?_
        rotate_left
        ·intro w'
         go_simp
         with_reducible rfl
        rotate_left
        ·simp only [Act.put, s1, s2, s3, q0d, q0f]
         rfl
        refine q0s (i := 1) (N := some 15) (v := ?_) (a' := ?_) #[true, true, false, false, false, false, false, false, false, false, false, false, false, false, false, false] rfl rfl (q16 HT_.out (by kernel_rfl)) (fun _ _ _ h => h) (Or.inl ⟨by rfl, ?_⟩) ?_ ?_
        rotate_left
        ·intro w'
         go_simp
         with_reducible rfl
        rotate_left
        ·simp only [Act.put, s1, s2, s3, q0d, q0f]
         rfl
        refine q0s (i := 2) (N := some 16) (v := ?_) (a' := ?_) #[true, true, true, false, false, false, false, false, false, false, false, false, false, false, false, false] rfl rfl (q16 HT_.out (by kernel_rfl)) (fun _ _ _ h => h) (Or.inl ⟨by rfl, ?_⟩) ?_ ?_
        rotate_left
        ·intro w'
         go_simp
         with_reducible rfl
        rotate_left
        ·simp only [Act.put, s1, s2, s3, q0d, q0f]
         rfl
        refine q0s (i := 3) (N := some 17) (v := ?_) (a' := ?_) #[true, true, true, true, false, false, false, false, false, false, false, false, false, false, false, false] rfl rfl (q16 HT_.out (by kernel_rfl)) (fun _ _ _ h => h) (Or.inl ⟨by rfl, ?_⟩) ?_ ?_
        rotate_left
        ·intro w'
         go_simp
         with_reducible rfl
        rotate_left
        ·simp only [Act.put, s1, s2, s3, q0d, q0f]
         rfl
        refine q0s (i := 4) (N := some 18) (v := ?_) (a' := ?_) #[true, true, true, true, true, false, false, false, false, false, false, false, false, false, false, false] rfl rfl (q16 HT_.out (by kernel_rfl)) (fun _ _ _ h => h) (Or.inl ⟨by rfl, ?_⟩) ?_ ?_
        rotate_left
        ·intro w'
         go_simp
         with_reducible rfl
        rotate_left
        ·simp only [Act.put, s1, s2, s3, q0d, q0f]
         rfl
        refine q0s (i := 5) (N := some 19) (v := ?_) (a' := ?_) #[true, true, true, true, true, true, false, false, false, false, false, false, false, false, false, false] rfl rfl (q16 HT_.out (by kernel_rfl)) (fun _ _ _ h => h) (Or.inl ⟨by rfl, ?_⟩) ?_ ?_
        rotate_left
        ·intro w'
         go_simp
         with_reducible rfl
        rotate_left
        ·simp only [Act.put, s1, s2, s3, q0d, q0f]
         rfl
        refine q0s (i := 6) (N := some 20) (v := ?_) (a' := ?_) #[true, true, true, true, true, true, true, false, false, false, false, false, false, false, false, false] rfl rfl (q16 HT_.out (by kernel_rfl)) (fun _ _ _ h => h) (Or.inl ⟨by rfl, ?_⟩) ?_ ?_
        rotate_left
        ·intro w'
         go_simp
         with_reducible rfl
        rotate_left
        ·simp only [Act.put, s1, s2, s3, q0d, q0f]
         rfl
        refine q0s (i := 8) (N := some 22) (v := ?_) (a' := ?_) #[true, true, true, true, true, true, true, false, true, false, false, false, false, false, false, false] rfl rfl (q16 HT_.out (by kernel_rfl)) (fun _ _ _ h => h) (Or.inl ⟨by rfl, ?_⟩) ?_ ?_
        rotate_left
        ·intro w'
         go_simp
         with_reducible rfl
        rotate_left
        ·simp only [Act.put, s1, s2, s3, q0d, q0f]
         rfl
        refine q0s (i := 9) (N := some 23) (v := ?_) (a' := ?_) #[true, true, true, true, true, true, true, false, true, true, false, false, false, false, false, false] rfl rfl (q16 HT_.out (by kernel_rfl)) (fun _ _ _ h => h) (Or.inl ⟨by rfl, ?_⟩) ?_ ?_
        rotate_left
        ·intro w'
         go_simp
         with_reducible rfl
        rotate_left
        ·simp only [Act.put, s1, s2, s3, q0d, q0f]
         rfl
        refine q0s (i := 10) (N := some 24) (v := ?_) (a' := ?_) #[true, true, true, true, true, true, true, false, true, true, true, false, false, false, false, false] rfl rfl (q16 HT_.out (by kernel_rfl)) (fun _ _ _ h => h) (Or.inl ⟨by rfl, ?_⟩) ?_ ?_
        rotate_left
        ·intro w'
         go_simp
         with_reducible rfl
        rotate_left
        ·simp only [Act.put, s1, s2, s3, q0d, q0f]
         rfl
        refine take_ (i := 7) (N := some 21) (v := ?_) (a' := ?_) #[true, true, true, true, true, true, true, true, true, true, true, false, false, false, false, false] rfl rfl (take_ofW HT_.out HW_.out (by kernel_rfl)) (fun _ _ _ h => h) (Or.inl ⟨by rfl, ?_⟩) hHeld ?_ ?_
        rotate_left
        ·rintro w' ⟨s0, s1⟩
         go_simp
         with_reducible rfl
        rotate_left
        ·simp only [Act.put, s1, s2, s3, q0d, q0f]
         rfl
        refine take_ (i := 11) (N := some 25) (v := ?_) (a' := ?_) #[true, true, true, true, true, true, true, true, true, true, true, true, false, false, false, false] rfl rfl (take_ofW HT_.out HW_.out (by kernel_rfl)) (fun _ _ _ h => h) (Or.inl ⟨by rfl, ?_⟩) hHeld ?_ ?_
        rotate_left
        ·rintro w' ⟨s0, s1⟩
         go_simp
         with_reducible rfl
        rotate_left
        ·simp only [Act.put, s1, s2, s3, q0d, q0f]
         rfl
        refine q0s (i := 12) (N := some 26) (v := ?_) (a' := ?_) #[true, true, true, true, true, true, true, true, true, true, true, true, true, false, false, false] rfl rfl (q16 HT_.out (by kernel_rfl)) (fun _ _ _ h => h) (Or.inl ⟨by rfl, ?_⟩) ?_ ?_
        rotate_left
        ·intro w'
         go_simp
         with_reducible rfl
        rotate_left
        ·simp only [Act.put, s1, s2, s3, q0d, q0f]
         rfl
        refine last_ (i := 13) (N := none) #[true, true, true, true, true, true, true, true, true, true, true, true, true, true, false, false] rfl rfl (one_of HT_.out (by kernel_rfl)) (by decide) (fun K hK => ?_)
        refine skip_ (w1 := ?_) (by rfl) rfl ?_ ?_
        rotate_left
        ·go_simp
         rfl
        refine hK.out _ _ ?_
        clear hK K
        refine q0s (i := 14) (N := some 27) (v := ?_) (a' := ?_) #[true, true, true, true, true, true, true, true, true, true, true, true, true, true, true, false] rfl rfl (q16 HT_.out (by kernel_rfl)) (fun _ _ _ h => h) (Or.inl ⟨by rfl, ?_⟩) ?_ ?_
        rotate_left
        ·intro w'
         go_simp
         with_reducible rfl
        rotate_left
        ·simp only [Act.put, s1, s2, s3, q0d, q0f]
         rfl
        refine last_ (i := 15) (N := none) #[true, true, true, true, true, true, true, true, true, true, true, true, true, true, true, true] rfl rfl (one_of HT_.out (by kernel_rfl)) (by decide) (fun K hK => ?_)
        refine skip_ (w1 := ?_) (by rfl) rfl ?_ ?_
        rotate_left
        ·go_simp
         rfl
        refine hK.out _ _ ?_
        clear hK K
        refine done_ (done_of HT_.out (by kernel_rfl)) ?_
        try go_wp2
        (try simp only [← hl0_1])
        go_roundg k1
        case measure => have := HK1.out; omega
        case rel => exact ⟨(y283), (wrap64 (x2_1 + 1)), (wrap64 (x3_1 - 1)), zi, zi, H', ⟨by have := HK1.out; omega⟩, ⟨by (try simp only [hl0_1]); (with_reducible repeat (first | apply rA | apply rN | apply rD)); exact HQ12.out⟩, ⟨by repeat (first | (with_reducible first | exact HK.out | apply Kept.alloc | apply Kept.drewN | apply Kept.drew | refine Kept.setCell ?_ HMgo8.out _ | refine Kept.setCell ?_ HMgo8.out _) | exact HK.out)⟩, ⟨by repeat (first | (with_reducible first | exact HB.out | apply bA | apply bN | apply bD | refine bS ?_ GB8.out | refine bS ?_ GB8.out) | exact HB.out)⟩⟩
       ·rw [if_neg c7] at H
        exact absurd H (by simp)
      ·rw [if_neg c6] at H
       exact absurd H (by simp)
     ·rw [if_neg c5] at H
      exact absurd H (by simp)
    ·rw [if_neg c4] at H
     exact absurd H (by simp)
   ·rw [if_neg c3] at H
    have c3b0 : decide (x2_1 < x3_1) = false := decide_eq_false c3
    (try simp only [hl0_1] at c3b0)
    clear c3
    obtain rfl := Option.some.inj H
    go_wp2
    first | go_end0 | ((try simp only [Exit.inBlock, Exit.then]); refine bodyPost_ret (results_none rfl _ _ _) rfl ?_)
    exact ⟨by first | rfl | (simp [q04, q03] <;> rfl) | (simp [*, q04, q03] <;> rfl), (by first | exact (zf HO_0.out) | (simp only [hl0_1]; exact (zf HO_0.out))), by repeat (first | (with_reducible first | exact HB.out | apply bA | apply bN | apply bD) | exact HB.out), by repeat (first | (with_reducible first | exact HK.out | apply Kept.alloc | apply Kept.drewN | apply Kept.drew) | exact HK.out)⟩
end Go.Proofs.YthjnallbbhnndaaDoor.XDb
namespace Go.Proofs.YthjnallbbhnndaaDoor.XDb
open Go.Proofs.YthjnallbbhnndaaDoor.Short Go.RowKit Go.Proofs.YthjnallbbhnndaaDoorW.PrintWords Go.Proofs.YthjnallbbhnndaaDoorW.PrintLast Go.Proofs.YthjnallbbhnndaaDoorW.PrintMore
attribute [local go_sem] q14 q12 q1b q1a q0u q0t q13 q11   -- for this text's walks alone
set_option linter.unusedVariables false
set_option linter.unusedSimpArgs false
def clerestorylaw1_few.f (l0_0 : List (S43)) (a0_1 : Bool) (a1 : Int) : Option ((List (S43)) × Bool) := if 0 ≤ (mn (l0_0.length : Int) a1) then (if (mn (l0_0.length : Int) a1) ≤ (l0_0.length : Int) then (some ((l0_0.take ((mn (l0_0.length : Int) a1) : Int).toNat), a0_1)) else (none)) else (none)
set_option maxHeartbeats 8000000 in
set_option maxRecDepth 100000 in
theorem clerestorylaw1_few.calls (P0_0_ : Nat → Prop) (A0_0 : Option Addr) (c0_0 : Nat) (l0_0 : List (S43)) (a0_1 : Bool) (a1 : Int) (r1 : List (S43)) (r2 : Bool) (w : World) (hs0_0 : Kd.V k43 43 w w.heap.size (fun k_ => P0_0_ k_) (.slice A0_0 l0_0.length c0_0) l0_0) (h : clerestorylaw1_few.f l0_0 a0_1 a1 = some (r1, r2)) :
 Calls Tryd.prog 15 #[.agg #[.slice A0_0 l0_0.length c0_0, .bool a0_1], .int .i64 a1] w fun e w' => ∃ v0_ : Value, e = .returned (.agg #[v0_, .bool r2]) ∧ Kd.V k43 43 w' w.heap.size (fun k_ => (P0_0_ k_ ∨ w.heap.size ≤ k_)) v0_ r1 ∧ Below w.heap.size w w' := by
 have hu24 := Tryd.underlying24
 have HO0_0 := aS (show Kd.V k43 43 w w.heap.size (fun k_ => (P0_0_ k_ ∨ w.heap.size ≤ k_)) (.slice A0_0 l0_0.length c0_0) l0_0 from Kd.V_mono hs0_0 (fun k_ hk => .inl hk))
 have HB := aS (Below.refl w.heap.size w)
 have H := h; clear h; unfold clerestorylaw1_few.f at H
 obtain ⟨ji3, hji3⟩ : ∃ j_ : Int, (mn (l0_0.length : Int) a1) = j_ := ⟨_, rfl⟩
 replace H : (if 0 ≤ (ji3) then (if (ji3) ≤ (l0_0.length : Int) then (some ((l0_0.take ((ji3) : Int).toNat), a0_1)) else (none)) else (none)) = some (r1, r2) := by first | (rw [hji3] at H; exact H) | (simp only [hji3] at H ⊢; exact H)
 have hji3_ : (if a1 < (l0_0.length : Int) then a1 else (l0_0.length : Int)) = ji3 := hji3
 refine iGp H ?_; clear H; intro c4 H
 have c4b0 := eq_true c4
 have c4b1 : decide (0 ≤ (ji3)) = true := decide_eq_true c4
 clear c4
 refine iGp H ?_; clear H; intro c5 H
 have c5b0 := eq_true c5
 have c5b1 : decide ((ji3) ≤ (l0_0.length : Int)) = true := decide_eq_true c5
 clear c5
 obtain ⟨y103, hy103⟩ : ∃ y_ : List (S43), y_ = (l0_0.take ((ji3) : Int).toNat) := ⟨_, rfl⟩
 replace H : (some (y103, a0_1)) = some (r1, r2) := by first | (rw [hy103]; with_reducible exact H) | (have H2_ := (Option.bind_some _ _).symm.trans H; rw [hy103]; with_reducible exact H2_) | (have H2_ := (Option.bind_some _ _).symm.trans H; with_reducible exact H2_) | with_reducible exact H | (rw [hy103]; exact H) | exact H
 have Ny103 := aS hy103
 clear hy103
 simp only [Option.some.injEq, Prod.mk.injEq] at H
 obtain ⟨rfl, rfl⟩ := H
 go_enter Tryd.func15, Tryd.ntmps15
 go_wp2_with (first | ((with_reducible refine q05 (N := 2) rfl ?_); refine q0p ?hg (N := 2) ?hd (cs := #[.slice A0_0 l0_0.length c0_0, .bool a0_1]) (t := 24) ?hr ?_; (case hd => rfl); (case hg => rfl); (case hr => first | (go_simp; done) | (go_simp; rfl)); intro gb101 hg w6 hbox hb; replace HO0_0 := aS (Kd.V_below (Kd.V_elderB (ze HO0_0.out) gb101 (Nat.le_of_eq hg.symm)) hb); have BK101 := aS (hbox); have GW101 := aS ((by rw [hg]; exact (q06 (z7 HB.out)) : w.heap.size ≤ gb101)); have GE101 := aS ((by rw [hg]; exact (q06 (z7 HB.out)) : w.heap.size ≤ gb101)); replace HB := aS (q00 (z7 HB.out) hb); clear hb hbox hg) | ((with_reducible refine q05 (N := 4) rfl ?_); refine q0p ?hg (N := 4) ?hd (cs := #[.slice none 0 0, .bool false]) (t := 24) ?hr ?_; (case hd => rfl); (case hg => rfl); (case hr => first | (go_simp; done) | (go_simp; rfl)); intro gb102 hg w7 hbox hb; have n0_ := aS (Kd.V_below (Kd.V_elderB (ze HO0_0.out) gb102 (Nat.le_of_eq hg.symm)) hb); have n1_ := aS (q02 (g := gb101) (o := .cells #[.slice A0_0 l0_0.length c0_0, .bool a0_1] 24 (0, 0)) (za BK101.out) hb); have n2_ := aS (q00 (z6 HB.out GE101.out) hb); have n3_ := aS (hbox); have n4_ := aS ((by rw [hg]; exact (q06 (z6 HB.out GE101.out)) : w.heap.size ≤ gb102)); have n5_ := aS ((by rw [hg]; exact (q06 (z6 HB.out GE101.out)) : w.heap.size ≤ gb102)); have n6_ := aS ((by rw [hg]; exact Nat.ne_of_lt (q0b (g := gb101) (o := .cells #[.slice A0_0 l0_0.length c0_0, .bool a0_1] 24 (0, 0)) (za BK101.out)) : gb101 ≠ gb102)); have n7_ := aS ((by rw [hg]; exact Nat.ne_of_gt (q0b (g := gb101) (o := .cells #[.slice A0_0 l0_0.length c0_0, .bool a0_1] 24 (0, 0)) (za BK101.out)) : gb102 ≠ gb101)); clear HO0_0; clear BK101; clear HB; have HO0_0 := n0_; have BK101 := n1_; have HB := n2_; have BK102 := n3_; have GW102 := n4_; have GE102 := n5_; have NB101_102 := n6_; have NB102_101 := n7_; clear n0_ n1_ n2_ n3_ n4_ n5_ n6_ n7_; clear hb hbox hg; have hnb8 := NB101_102.out; have hnc8 := NB102_101.out; obtain ⟨hczL_0, hczL_1, hfzL_0, hfzL_1⟩ := bk2 BK101.out; have q10 : ((ji3) : Int) ≤ ((l0_0.length : Int) : Int) := od zb; obtain ⟨i010, hi010, _, hsz10, _⟩ := info_parts info43; have hroom10 : l0_0.length ≤ c0_0 := (Kd.V_reads' HO0_0.out).2.1; have hC10 : Kd.F k43 _ _ A0_0 l0_0.length l0_0 := (Kd.V_at (base := w.heap.size) HO0_0.out).2.2; have hcut10 := cut_to (P := Tryd.prog) 22 43 .i64 Tryd.underlying22 hi010 A0_0 l0_0.length c0_0 (ji3) (od zb) q10 hroom10; have hr10 := Kd.F_take (m := ((ji3) : Int).toNat) hC10 (by omega); have hy10 : y103.length = ((ji3) : Int).toNat := (by rw [Ny103.out, List.length_take]; omega); rw [← Ny103.out] at hr10; rw [← hy10] at hcut10; have HO107 := aS (show Kd.V k43 43 _ w.heap.size _ (.slice A0_0 y103.length c0_0) y103 from Kd.V_mk (by omega) hr10); have HC107 := aS (show y103.length ≤ c0_0 from by omega); clear hr10 hC10 hroom10 hi010 hsz10; have KY10 := aS hy10; clear hy10; replace q10 := eq_true q10; obtain ⟨hczL_0, hczL_1, hfzL_0, hfzL_1⟩ := bk2 BK102.out))
 refine bodyPost_ret (results_cell_row rfl _ _ gb102 24 #[.slice A0_0 y103.length c0_0, .bool a0_1] (0, 0) _ rfl (by (with_reducible repeat (first | refine kN ?_ _ | refine kD ?_ | refine kA ?_ _)); refine q0g (cs := #[.slice A0_0 y103.length c0_0, .bool false]) ?_ 1 _ rfl; (with_reducible repeat (first | refine kN ?_ _ | refine kD ?_ | refine kA ?_ _)); refine q0g (cs := #[.slice none 0 0, .bool false]) ?_ 0 _ rfl; (with_reducible repeat (first | refine kN ?_ _ | refine kD ?_ | refine kA ?_ _)); refine q0w ?_ NB102_101.out _; (with_reducible repeat (first | refine kN ?_ _ | refine kD ?_ | refine kA ?_ _)); exact BK102.out) Tryd.underlying24 rfl (by kernel_rfl)) rfl ?_
 exact ⟨_, by first | rfl | (simp [q04, q03] <;> rfl) | (simp only [← hji3]; first | rfl | (simp [q04, q03] <;> rfl)) | (simp [*, q04, q03] <;> rfl), by (with_reducible repeat (first | apply vA | apply vN | apply vD)); exact Kd.V_mono (Kd.V_far (p := ⟨gb102, 1, none⟩) (Kd.V_far (p := ⟨gb102, 0, none⟩) (Kd.V_far (p := ⟨gb101, 0, none⟩) (Kd.V_mono (Kd.V_mono HO107.out (fun k_ hk => (⟨hk, hk.1.2⟩ : _ ∧ k_ ≠ gb101))) (fun k_ hk => (⟨hk, hk.1.2⟩ : _ ∧ k_ ≠ gb102))) (fun _ hk => hk.1.2) (.slice A0_0 y103.length c0_0)) (fun _ hk => hk.2) (.slice A0_0 y103.length c0_0)) (fun _ hk => hk.2) (.bool a0_1)) (fun _ hk => hk.1.1.1.1), by repeat (first | (with_reducible first | exact HB.out | apply bA | apply bN | apply bD | refine bS ?_ GE101.out | refine bS ?_ GE102.out) | exact HB.out)⟩
def clerestoryref1_Deep.l0 : Nat → Int → Int → List (S43) → Bool → Option (Int)
 | 0, _, _, _, _ => none
 | k + 1, x1, x5, x109000, x109001 => if 0 ≤ x1 then (if x1 < (x109000.length : Int) then (if ((q01 x109000 x1).f4) ≥ 0 then (if (wrap64 (x5 + 1)) > (x109000.length : Int) then (some (-1)) else (clerestoryref1_Deep.l0 k ((q01 x109000 x1).f4) (wrap64 (x5 + 1)) x109000 x109001)) else (some x5)) else (none)) else (none)
def clerestoryref1_Deep.f (k : Nat) (l0_0 : List (S43)) (a0_1 : Bool) (a1 : Int) : Option (Int) := clerestoryref1_Deep.l0 k a1 0 l0_0 a0_1
theorem clerestoryref1_Deep.mono_l : ∀ k, (∀ y0 y1 y2 y3, LeO (clerestoryref1_Deep.l0 k y0 y1 y2 y3) (clerestoryref1_Deep.l0 (k + 1) y0 y1 y2 y3))
 | 0 => fun _ _ _ _ r h => by simp [clerestoryref1_Deep.l0] at h
 | k + 1 => by
  have ih0 := clerestoryref1_Deep.mono_l k
  ·intro y0 y1 y2 y3
   unfold clerestoryref1_Deep.l0
   repeat' first | with_reducible first | apply ih0 | exact LeO.refl _ | exact LeO.none _ | refine LeO.ite ?_ ?_ | refine LeO.bind ?_ (fun _ => ?_) | (first | apply ih0 | exact LeO.none _ | refine LeO.ite ?_ ?_ | refine LeO.bind ?_ (fun _ => ?_))
theorem clerestoryref1_Deep.mono : ∀ a0 a1 a2 k, LeO (clerestoryref1_Deep.f k a0 a1 a2) (clerestoryref1_Deep.f (k + 1) a0 a1 a2) := by
 intro a0 a1 a2 k
 have ih0 := clerestoryref1_Deep.mono_l k
 unfold clerestoryref1_Deep.f
 repeat' first | with_reducible first | apply ih0 | exact LeO.refl _ | exact LeO.none _ | refine LeO.ite ?_ ?_ | refine LeO.bind ?_ (fun _ => ?_) | (first | apply ih0 | exact LeO.none _ | refine LeO.ite ?_ ?_ | refine LeO.bind ?_ (fun _ => ?_))
set_option maxHeartbeats 8000000 in
set_option maxRecDepth 100000 in
theorem clerestoryref1_Deep.calls (k : Nat) (A0_0 : Option Addr) (c0_0 : Nat) (l0_0 : List (S43)) (a0_1 : Bool) (a1 : Int) (r : Int) (w : World) (hr0_0 : Kd.C k43 w A0_0 l0_0.length l0_0) (hc0_0 : l0_0.length ≤ c0_0) (h : clerestoryref1_Deep.f k l0_0 a0_1 a1 = some r) :
 Calls Tryd.prog 65 #[.agg #[.slice A0_0 l0_0.length c0_0, .bool a0_1], .int .i64 a1] w fun e w' => e = .returned (.int .i64 r) ∧ Below w.heap.size w w' := by
 have hu24 := Tryd.underlying24
 have HR0_0 := aS hr0_0
 have HC0_0 := aS hc0_0
 clear hr0_0 hc0_0
 have HB := aS (Below.refl w.heap.size w)
 have H := h; clear h; unfold clerestoryref1_Deep.f at H
 have H' := aS H
 clear H
 go_enter Tryd.func65, Tryd.ntmps65
 go_wp2_with (first | ((with_reducible refine q05 (N := 2) rfl ?_); refine box0 rfl (N := 2) rfl (cs := #[.slice A0_0 l0_0.length c0_0, .bool a0_1]) (t := 24) zh (z7 HB.out) ?_; clear HB; intro gb108 w3 BK108 GW108 HB; have GE108 := GW108))
 go_loopg [1, 5] k (fun kq v1 v5 w' => ∃ (x1_1 : Int) (x5_1 : Int), v1 = .int .i64 x1_1 ∧ v5 = .int .i64 x5_1 ∧ Aside0 (clerestoryref1_Deep.l0 kq x1_1 x5_1 l0_0 a0_1 = some r) ∧ Aside0 (kq ≤ k) ∧ Aside0 (w'.heap[gb108]? = some (.cells #[(.slice A0_0 l0_0.length c0_0), .bool a0_1] 24 (0, 0))) ∧ Aside0 (Below w.heap.size w w'))
 case atStart => exact ⟨(a1), (0), zi, zi, H', ⟨Nat.le_refl _⟩, ⟨by (with_reducible repeat (first | refine kN ?_ _ | refine kD ?_ | refine kA ?_ _)); exact BK108.out⟩, ⟨by repeat (first | (with_reducible first | exact HB.out | apply bA | apply bN | apply bD | refine bS ?_ GE108.out) | exact HB.out)⟩⟩
 case round =>
  clear H'
  obtain ⟨x1_1, x5_1, rfl, rfl, HA, HK1, BK108, HB⟩ := hrel
  cases gk with
  | zero => exact absurd HA.out (by simp [clerestoryref1_Deep.l0])
  | succ k1 =>
   have H := HA.out
   clear HA
   simp only [clerestoryref1_Deep.l0] at H
   obtain ⟨hczL_0, hczL_1, hfzL_0, hfzL_1⟩ := bk2 BK108.out
   refine iLp H ?_; clear H; intro c4b0 H
   refine iTp H ?_; clear H; intro c5b0 H
   obtain ⟨ad109, A109_2, c109_2, A109_5, c109_5, e109, hx109_0, hx109_1, hx109_2, hx109_3, hx109_4, hx109_5, HC109_2, HR109_2, HC109_5, HR109_5, p109, q109⟩ := q0h HB.out HR0_0.out x1_1 zb zb
   cases e109
   refine iL H ?p6 ?n6 <;> clear H
   case' p6 =>
    intro c6b0 H
    obtain ⟨ad110, A110_2, c110_2, A110_5, c110_5, e110, hx110_0, hx110_1, hx110_2, hx110_3, hx110_4, hx110_5, HC110_2, HR110_2, HC110_5, HR110_5, p110, q110⟩ := q0h HB.out HR0_0.out x1_1 zb zb
    obtain rfl : ad109 = ad110 := (by injection e110)
    refine iT H ?p7 ?n7 <;> clear H
   case' p7 => intro c7b0 H
   case' n7 => intro c7b0 H
   case' n6 => intro c6b0 H
   case p7 =>
    obtain rfl := Option.some.inj H
    have ea_ := Option.some.inj (hx109_2.symm.trans hx110_2)
    injection ea_ with ea_ en_ ec_
    subst ea_
    subst ec_
    clear en_
    have ea_ := Option.some.inj (hx109_5.symm.trans hx110_5)
    injection ea_ with ea_ en_ ec_
    subst ea_
    subst ec_
    clear en_
    go_wp2
    go_ret
    exact ⟨by first | rfl | (simp [q04, q03] <;> rfl) | (simp [*, q04, q03] <;> rfl), by repeat (first | (with_reducible first | exact HB.out | apply bA | apply bN | apply bD | refine bS ?_ GE108.out) | exact HB.out)⟩
   case n7 =>
    have H' := aS H
    clear H
    have ea_ := Option.some.inj (hx109_2.symm.trans hx110_2)
    injection ea_ with ea_ en_ ec_
    subst ea_
    subst ec_
    clear en_
    have ea_ := Option.some.inj (hx109_5.symm.trans hx110_5)
    injection ea_ with ea_ en_ ec_
    subst ea_
    subst ec_
    clear en_
    go_wp2
    go_roundg k1
    case measure => have := HK1.out; omega
    case rel => exact ⟨((q01 l0_0 x1_1).f4), (wrap64 (x5_1 + 1)), zi, zi, H', ⟨by have := HK1.out; omega⟩, ⟨by (with_reducible repeat (first | refine kN ?_ _ | refine kD ?_ | refine kA ?_ _)); exact BK108.out⟩, ⟨by repeat (first | (with_reducible first | exact HB.out | apply bA | apply bN | apply bD | refine bS ?_ GE108.out) | exact HB.out)⟩⟩
   case n6 =>
    obtain rfl := Option.some.inj H
    go_wp2
    go_ret
    exact ⟨by first | rfl | (simp [q04, q03] <;> rfl) | (simp [*, q04, q03] <;> rfl), by repeat (first | (with_reducible first | exact HB.out | apply bA | apply bN | apply bD | refine bS ?_ GE108.out) | exact HB.out)⟩
def clerestoryref1_AttrOf.l0 : Nat → List (S122) → ByteArray → Int → Option (ByteArray × Bool)
 | 0, _, _, _ => none
 | k + 1, x0, x1, x6 => if x6 < (x0.length : Int) then (if 0 ≤ x6 then (if ((q0a x0 x6).f0).toList = x1.toList then (some ((q0a x0 x6).f1, true)) else (clerestoryref1_AttrOf.l0 k x0 x1 (wrap64 (x6 + 1)))) else (none)) else (some ((⟨#[]⟩ : ByteArray), false))
def clerestoryref1_AttrOf.f (k : Nat) (l0 : List (S122)) (a1 : ByteArray) : Option (ByteArray × Bool) := clerestoryref1_AttrOf.l0 k l0 a1 0
theorem clerestoryref1_AttrOf.mono_l : ∀ k, (∀ y0 y1 y2, LeO (clerestoryref1_AttrOf.l0 k y0 y1 y2) (clerestoryref1_AttrOf.l0 (k + 1) y0 y1 y2))
 | 0 => fun _ _ _ r h => by simp [clerestoryref1_AttrOf.l0] at h
 | k + 1 => by
  have ih0 := clerestoryref1_AttrOf.mono_l k
  ·intro y0 y1 y2
   unfold clerestoryref1_AttrOf.l0
   repeat' first | with_reducible first | apply ih0 | exact LeO.refl _ | exact LeO.none _ | refine LeO.ite ?_ ?_ | refine LeO.bind ?_ (fun _ => ?_) | (first | apply ih0 | exact LeO.none _ | refine LeO.ite ?_ ?_ | refine LeO.bind ?_ (fun _ => ?_))
theorem clerestoryref1_AttrOf.mono : ∀ a0 a1 k, LeO (clerestoryref1_AttrOf.f k a0 a1) (clerestoryref1_AttrOf.f (k + 1) a0 a1) := by
 intro a0 a1 k
 have ih0 := clerestoryref1_AttrOf.mono_l k
 unfold clerestoryref1_AttrOf.f
 repeat' first | with_reducible first | apply ih0 | exact LeO.refl _ | exact LeO.none _ | refine LeO.ite ?_ ?_ | refine LeO.bind ?_ (fun _ => ?_) | (first | apply ih0 | exact LeO.none _ | refine LeO.ite ?_ ?_ | refine LeO.bind ?_ (fun _ => ?_))
set_option maxHeartbeats 8000000 in
set_option maxRecDepth 100000 in
theorem clerestoryref1_AttrOf.calls (k : Nat) (A0 : Option Addr) (c0 : Nat) (l0 : List (S122)) (a1 : ByteArray) (r1 : ByteArray) (r2 : Bool) (w : World) (hr0 : Kd.C k122 w A0 l0.length l0) (hc0 : l0.length ≤ c0) (h : clerestoryref1_AttrOf.f k l0 a1 = some (r1, r2)) :
 Calls Tryd.prog 64 #[.slice A0 l0.length c0, .string a1] w fun e w' => e = .returned (.tuple #[.string r1, .bool r2]) ∧ Drawn0 w w' := by
 have HR0 := aS hr0
 have HC0 := aS hc0
 clear hr0 hc0
 have H := h; clear h; unfold clerestoryref1_AttrOf.f at H
 have H' := aS H
 clear H
 go_enter Tryd.func64, Tryd.ntmps64
 go_wp2
 go_loopg [6] k (fun kq v6 w' => ∃ (x6_1 : Int), v6 = .int .i64 x6_1 ∧ Aside0 (clerestoryref1_AttrOf.l0 kq l0 a1 x6_1 = some (r1, r2)) ∧ Aside0 (kq ≤ k) ∧ Drawn0 w w')
 case atStart => exact ⟨(0), zi, H', ⟨Nat.le_refl _⟩, by repeat (first | exact Drawn0.refl _ | apply Drawn0.step)⟩
 case round =>
  clear H'
  obtain ⟨x6_1, rfl, HA, HK1, ⟨m1, rfl⟩⟩ := hrel
  cases gk with
  | zero => exact absurd HA.out (by simp [clerestoryref1_AttrOf.l0])
  | succ k1 =>
   have H := HA.out
   clear HA
   simp only [clerestoryref1_AttrOf.l0] at H
   refine iT H ?p3 ?n3 <;> clear H
   case' p3 =>
    intro c3b0 H
    refine iLp H ?_; clear H; intro c4b0 H
    obtain ⟨ad111, e111, hx111_0, hx111_1, p111, q111⟩ := at_T122A HR0.out x6_1 zb zb
    cases e111
    refine iE H ?p5 ?n5 <;> clear H
   case' p5 => intro c5b0 c5b1 H
   case' n5 => intro c5 c5b0 c5b1 H
   case' n3 => intro c3b0 H
   case p5 =>
    simp only [Option.some.injEq, Prod.mk.injEq] at H
    obtain ⟨rfl, rfl⟩ := H
    obtain ⟨ad112, e112, hx112_0, hx112_1, p112, q112⟩ := at_T122A HR0.out x6_1 zb zb
    obtain rfl : ad111 = ad112 := (by injection e112)
    go_wp2
    go_ret2
    exact ⟨by first | rfl | (simp; done) | (simp [*]; done), by repeat (first | exact Drawn0.refl _ | apply Drawn0.step)⟩
   case n5 =>
    have H' := aS H
    clear H
    go_wp2
    go_roundg k1
    case measure => have := HK1.out; omega
    case rel => exact ⟨(wrap64 (x6_1 + 1)), zi, H', ⟨by have := HK1.out; omega⟩, by repeat (first | exact Drawn0.refl _ | apply Drawn0.step)⟩
   case n3 =>
    simp only [Option.some.injEq, Prod.mk.injEq] at H
    obtain ⟨rfl, rfl⟩ := H
    go_wp2
    go_ret2
    exact ⟨by first | rfl | (simp; done) | (simp [*]; done), by repeat (first | exact Drawn0.refl _ | apply Drawn0.step)⟩
def clerestoryref1_between.f (a0 : Int) (a1 : Int) (a2 : Int) : Option (Bool) := if a0 ≥ a1 then (some (decide (a0 ≤ a2))) else (some false)
set_option maxHeartbeats 8000000 in
set_option maxRecDepth 100000 in
theorem clerestoryref1_between.calls (a0 : Int) (a1 : Int) (a2 : Int) (r : Bool) (w : World) (h : clerestoryref1_between.f a0 a1 a2 = some r) :
 Calls Tryd.prog 73 #[.int .i64 a0, .int .i64 a1, .int .i64 a2] w fun e w' => e = .returned (.bool r) ∧ Drawn0 w w' := by
 have H := h; clear h; unfold clerestoryref1_between.f at H
 refine iL H ?p4 ?n4 <;> clear H
 case' p4 => intro c4b0 H
 case' n4 => intro c4b0 H
 case p4|n4 =>
  obtain rfl := Option.some.inj H
  go_enter Tryd.func73, Tryd.ntmps73
  go_wp2
  go_ret
  exact ⟨by first | rfl | (simp; done) | (simp [*]; done), by repeat (first | exact Drawn0.refl _ | apply Drawn0.step)⟩
end Go.Proofs.YthjnallbbhnndaaDoor.XDb
namespace Go.Proofs.YthjnallbbhnndaaDoor.XDb
open Go.Proofs.YthjnallbbhnndaaDoor.Short Go.RowKit Go.Proofs.YthjnallbbhnndaaDoorW.PrintWords Go.Proofs.YthjnallbbhnndaaDoorW.PrintLast Go.Proofs.YthjnallbbhnndaaDoorW.PrintMore
attribute [local go_sem] q14 q12 q1b q1a q0u q0t q13 q11   -- for this text's walks alone
set_option linter.unusedVariables false
set_option linter.unusedSimpArgs false
def dom_Path.l0 : Nat → Int → List Int → List (S43) → Bool → Option (List Int × Int)
 | 0, _, _, _, _ => none
 | k + 1, x1, x7, x285000, x285001 => if x1 ≥ 0 then (if x7.length < 17592186044416 then (if 0 ≤ x1 then (if x1 < (x285000.length : Int) then (dom_Path.l0 k ((q01 x285000 x1).f4) (x7 ++ [x1]) x285000 x285001) else (none)) else (none)) else (none)) else (if 0 ≤ (wrap64 ((x7.length : Int) - 1)) then (if (wrap64 ((x7.length : Int) - 1)) < (x7.length : Int) then (if (rd x7 (wrap64 ((x7.length : Int) - 1))) = 0 then ((slices_Reverse_int_int.f k x7).bind fun t291 => (some (t291, 0))) else (some (([] : List Int), 5))) else (none)) else (none))
def dom_Path.f (k : Nat) (l0_0 : List (S43)) (a0_1 : Bool) (a1 : Int) : Option (List Int × Int) := (dom_ask.f k l0_0 a0_1 a1).bind fun t285 => (if t285 = 0 then (dom_Path.l0 k a1 ([] : List Int) l0_0 a0_1) else (some (([] : List Int), t285)))
theorem dom_Path.mono_l : ∀ k, (∀ y0 y1 y2 y3, LeO (dom_Path.l0 k y0 y1 y2 y3) (dom_Path.l0 (k + 1) y0 y1 y2 y3))
 | 0 => fun _ _ _ _ r h => by simp [dom_Path.l0] at h
 | k + 1 => by
  have ih0 := dom_Path.mono_l k
  ·intro y0 y1 y2 y3
   unfold dom_Path.l0
   repeat' first | with_reducible first | apply ih0 | apply dom_ask.mono | apply slices_Reverse_int_int.mono | exact LeO.refl _ | exact LeO.none _ | refine LeO.ite ?_ ?_ | refine LeO.bind ?_ (fun _ => ?_) | (first | apply ih0 | apply dom_ask.mono | apply slices_Reverse_int_int.mono | exact LeO.none _ | refine LeO.ite ?_ ?_ | refine LeO.bind ?_ (fun _ => ?_))
theorem dom_Path.mono : ∀ a0 a1 a2 k, LeO (dom_Path.f k a0 a1 a2) (dom_Path.f (k + 1) a0 a1 a2) := by
 intro a0 a1 a2 k
 have ih0 := dom_Path.mono_l k
 unfold dom_Path.f
 repeat' first | with_reducible first | apply ih0 | apply dom_ask.mono | apply slices_Reverse_int_int.mono | exact LeO.refl _ | exact LeO.none _ | refine LeO.ite ?_ ?_ | refine LeO.bind ?_ (fun _ => ?_) | (first | apply ih0 | apply dom_ask.mono | apply slices_Reverse_int_int.mono | exact LeO.none _ | refine LeO.ite ?_ ?_ | refine LeO.bind ?_ (fun _ => ?_))
set_option maxHeartbeats 8000000 in
set_option maxRecDepth 100000 in
theorem dom_Path.calls (k : Nat) (A0_0 : Option Addr) (c0_0 : Nat) (l0_0 : List (S43)) (a0_1 : Bool) (a1 : Int) (r1 : List Int) (r2 : Int) (w : World) (hr0_0 : Kd.C k43 w A0_0 l0_0.length l0_0) (hc0_0 : l0_0.length ≤ c0_0) (h : dom_Path.f k l0_0 a0_1 a1 = some (r1, r2)) :
 Calls Tryd.prog 60 #[.agg #[.slice A0_0 l0_0.length c0_0, .bool a0_1], .int .i64 a1] w fun e w' => ∃ v0_ : Value, e = .returned (.tuple #[v0_, .int .i64 r2]) ∧ Kd.R (Kd.int .i64) 3 w' w.heap.size (fun _ => True) v0_ r1 ∧ Below w.heap.size w w' := by
 have hu24 := Tryd.underlying24
 have HR0_0 := aS hr0_0
 have HC0_0 := aS hc0_0
 clear hr0_0 hc0_0
 have HB := aS (Below.refl w.heap.size w)
 have H := h; clear h; unfold dom_Path.f at H
 replace H := iB H
 obtain ⟨t285, A3, H⟩ := H
 refine iE H ?p4 ?n4 <;> clear H
 case' p4 => intro c4b0 c4b1 H
 case' n4 => intro c4 c4b0 c4b1 H
 case p4 =>
  have H' := aS H
  clear H
  go_enter Tryd.func60, Tryd.ntmps60
  go_wp2_with (first | ((with_reducible refine q05 (N := 2) rfl ?_); refine box0 rfl (N := 2) rfl (cs := #[.slice A0_0 l0_0.length c0_0, .bool a0_1]) (t := 24) zh (z7 HB.out) ?_; clear HB; intro gb284 w5 BK284 GW284 HB; have GE284 := GW284; obtain ⟨hczL_0, hczL_1, hfzL_0, hfzL_1⟩ := bk2 BK284.out) | ((with_reducible refine q07 (f := 110) rfl ?_); refine q0j (some 10) rfl rfl Tryd.func110 (by kernel_rfl) rfl #[.agg #[.slice A0_0 l0_0.length c0_0, .bool a0_1], .int .i64 a1] rfl zc ?_; (with_reducible refine (dom_ask.calls k _ _ l0_0 a0_1 a1 t285 _ ?side1 ?side2 A3.out).mono ?_); (case side1 => repeat (first | exact (Kd.C_below HR0_0.out HB.out) | (with_reducible refine cA ?_ _) | (with_reducible refine cN ?_ _) | (with_reducible refine cD ?_))); (case side2 => exact HC0_0.out); rintro e w7 ⟨rfl, hb⟩; refine ⟨_, rfl, ?_⟩; replace BK284 := aS (q02 (g := gb284) (o := .cells #[.slice A0_0 l0_0.length c0_0, .bool a0_1] 24 (0, 0)) (za BK284.out) hb); replace HB := aS (q00 (z6 HB.out GE284.out) hb); (try clear hb); (try clear hb2); (try clear hk); (try clear hi)))
  go_loopg [1, 7] k (fun kq v1 v7 w' => ∃ (x1_1 : Int) (x7_1 : List Int), v1 = .int .i64 x1_1 ∧ Aside0 (dom_Path.l0 kq x1_1 x7_1 l0_0 a0_1 = some (r1, r2)) ∧ Aside0 (kq ≤ k) ∧ Aside0 (Kd.R (Kd.int .i64) 3 w' w.heap.size (fun _ => True) v7 x7_1) ∧ Aside0 (w'.heap[gb284]? = some (.cells #[(.slice A0_0 l0_0.length c0_0), .bool a0_1] 24 (0, 0))) ∧ Aside0 (Below w.heap.size w w'))
  case atStart => exact ⟨(a1), (([] : List Int)), zi, H', ⟨Nat.le_refl _⟩, ⟨by first | exact Kd.R_nil _ _ _ _ _ | exact Kd.N_nil _ _ _ _ _ | exact Kd.V_nil _ _ _ _ _ | exact Kd.Q_nil _ _ _ _ _ | exact Kd.S_nil _ _ _ _ _⟩, ⟨by (with_reducible repeat (first | refine kN ?_ _ | refine kD ?_ | refine kA ?_ _)); exact BK284.out⟩, ⟨by repeat (first | (with_reducible first | exact HB.out | apply bA | apply bN | apply bD | refine bS ?_ GE284.out) | exact HB.out)⟩⟩
  case round =>
   clear H'
   obtain ⟨x1_1, x7_1, rfl, HA, HK1, HO_7, BK284, HB⟩ := hrel
   cases gk with
   | zero => exact absurd HA.out (by simp [dom_Path.l0])
   | succ k1 =>
    have H := HA.out
    clear HA
    simp only [dom_Path.l0] at H
    refine iL H ?p8 ?n8 <;> clear H
    case' p8 =>
     intro c8b0 H
     refine iGp H ?_; clear H; intro c9 H
     have LMc9 := aS c9
     clear c9
     obtain ⟨y286, hy286⟩ : ∃ y_ : List Int, y_ = (x7_1 ++ [x1_1]) := ⟨_, rfl⟩
     replace H : (if 0 ≤ x1_1 then (if x1_1 < (l0_0.length : Int) then (dom_Path.l0 k1 ((q01 l0_0 x1_1).f4) y286 l0_0 a0_1) else (none)) else (none)) = some (r1, r2) := by first | (rw [hy286]; with_reducible exact H) | (have H2_ := (Option.bind_some _ _).symm.trans H; rw [hy286]; with_reducible exact H2_) | (have H2_ := (Option.bind_some _ _).symm.trans H; with_reducible exact H2_) | with_reducible exact H | (rw [hy286]; exact H) | exact H
     have Ny286 := aS hy286
     clear hy286
     refine iLp H ?_; clear H; intro c10b0 H
     refine iTp H ?_; clear H; intro c11b0 H
    case' n8 =>
     intro c8b0 H
     obtain ⟨ji14, hji14⟩ : ∃ j_ : Int, (wrap64 ((x7_1.length : Int) - 1)) = j_ := ⟨_, rfl⟩
     replace H : (if 0 ≤ (ji14) then (if (ji14) < (x7_1.length : Int) then (if (rd x7_1 (ji14)) = 0 then ((slices_Reverse_int_int.f k1 x7_1).bind fun t291 => (some (t291, 0))) else (some (([] : List Int), 5))) else (none)) else (none)) = some (r1, r2) := by first | (rw [hji14] at H; exact H) | (simp only [hji14] at H ⊢; exact H)
     have hji14w : (IntKind.i64.wrap ((x7_1.length : Int) - 1)) = ji14 := (q0d _).trans hji14
     refine iLp H ?_; clear H; intro c15b0 H
     refine iTp H ?_; clear H; intro c16b0 H
     refine iE H ?p17 ?n17 <;> clear H
    case' p17 => intro c17b0 c17b1 H
    case' n17 => intro c17 c17b0 c17b1 H
    case p8 =>
     have H' := aS H
     clear H
     go_wp2_with (first | ((with_reducible refine gate_builtin (b := .append) (xs := #[.tmp 22, .tmp 24]) rfl ?_); at_builtin; refine Kd.R_append (Kd.int .i64) (w0 := w) w.heap.size rfl (.tmp 22) (.tmp 24) 31 3 (.int .i64 0) 8 rfl Tryd.underlying31 info3 rfl (by decide) (by omega) u7 x7_1 x1_1 [.int .i64 x1_1] (fun _ => True) (fun _ => False) rfl rfl ?aP (fun _ hk => hk.elim) ?aF ?aO ?aB ?aS ?aL ?_; (case aP => exact rfl); (case aB => exact (z6 HB.out GE284.out)); (case aF => exact (fun _ _ => trivial)); (case aO => exact (zf HO_7.out)); (case aS => exact (q06 (z6 HB.out GE284.out))); (case aL => have := LMc9.out; omega); intro v287 w12 ho hb hg hat; rw [← Ny286.out] at ho; have n0_ := aS (blk_grown (g := gb284) (o := .cells #[.slice A0_0 l0_0.length c0_0, .bool a0_1] 24 (0, 0)) (za BK284.out) hg (Kd.R_ne HO_7.out BK284.out (by decide))); have n1_ := aS (hb); have n2_ := aS (ho); clear BK284; clear HB; clear HO_7; have BK284 := n0_; have HB := n1_; have HO288 := n2_; clear n0_ n1_ n2_; clear ho hb hg hat; obtain ⟨hczL_0, hczL_1, hfzL_0, hfzL_1⟩ := bk2 BK284.out; obtain ⟨ad289, A289_2, c289_2, A289_5, c289_5, e289, hx289_0, hx289_1, hx289_2, hx289_3, hx289_4, hx289_5, HC289_2, HR289_2, HC289_5, HR289_5, p289, q289⟩ := q0h HB.out HR0_0.out x1_1 zb zb; cases e289))
     go_roundg k1
     case measure => have := HK1.out; omega
     case rel => exact ⟨((q01 l0_0 x1_1).f4), (y286), zi, H', ⟨by have := HK1.out; omega⟩, ⟨by (with_reducible repeat (first | apply rA | apply rN | apply rD)); exact HO288.out⟩, ⟨by (with_reducible repeat (first | refine kN ?_ _ | refine kD ?_ | refine kA ?_ _)); exact BK284.out⟩, ⟨by repeat (first | (with_reducible first | exact HB.out | apply bA | apply bN | apply bD | refine bS ?_ GE284.out) | exact HB.out)⟩⟩
    case p17 =>
     replace H := iB H
     obtain ⟨t291, A18, H⟩ := H
     simp only [Option.some.injEq, Prod.mk.injEq] at H
     obtain ⟨rfl, rfl⟩ := H
     obtain ⟨Ao19, co19, eo19⟩ := Kd.R_slice HO_7.out
     subst eo19
     obtain ⟨ad290, e290, hx290_0, p290, q290⟩ := atIA (Kd.R_reads' HO_7.out).2.2 (ji14) zb zb
     cases e290
     go_wp2_with (first | ((with_reducible refine q07 (f := 111) rfl ?_); refine q0j (some 34) rfl rfl Tryd.func111 (by kernel_rfl) rfl #[.slice (some ad290) x7_1.length co19] rfl zc ?_; (with_reducible refine (slices_Reverse_int_int.calls k1 (fun k_ => some k_ = (.slice (some ad290) x7_1.length co19 : Value).ownBlock) (.slice (some ad290) x7_1.length co19) x7_1 t291 w _ ?side1 ?side2 A18.out).mono ?_); (case side1 => repeat (first | (with_reducible first | exact HB.out | apply bA | apply bN | apply bD | refine bS ?_ GE284.out) | exact HB.out)); (case side2 => exact Kd.R_tight rfl HO_7.out); rintro e w20 ⟨rfl, hy0, hb, hkp⟩; refine ⟨_, rfl, ?_⟩; have n0_ := aS (Kd.R_reok rfl hy0 (fun k_ e_ => HO_7.out.1 k_ e_)); have n1_ := aS (blk_kept (za BK284.out) hkp (fun hs_ => (fun e_ => (Kd.R_ne HO_7.out BK284.out (by decide)) e_) hs_)); have n2_ := aS (hb); clear HO_7; clear BK284; clear HB; have HO_7 := n0_; have BK284 := n1_; have HB := n2_; clear n0_ n1_ n2_; (try clear hb); (try clear hkp); (try clear hy0)))
     go_ret2
     exact ⟨_, by first | rfl | (simp [q04, q03] <;> rfl) | (simp only [← hji14]; first | rfl | (simp [q04, q03] <;> rfl)) | (simp [*, q04, q03] <;> rfl), by (with_reducible repeat (first | apply rA | apply rN | apply rD)); exact HO_7.out, by repeat (first | (with_reducible first | exact HB.out | apply bA | apply bN | apply bD | refine bS ?_ GE284.out) | exact HB.out)⟩
    case n17 =>
     simp only [Option.some.injEq, Prod.mk.injEq] at H
     obtain ⟨rfl, rfl⟩ := H
     obtain ⟨Ao21, co21, eo21⟩ := Kd.R_slice HO_7.out
     subst eo21
     obtain ⟨ad290, e290, hx290_0, p290, q290⟩ := atIA (Kd.R_reads' HO_7.out).2.2 (ji14) zb zb
     cases e290
     go_wp2
     go_ret2
     exact ⟨_, by first | rfl | (simp [q04, q03] <;> rfl) | (simp only [← hji14]; first | rfl | (simp [q04, q03] <;> rfl)) | (simp [*, q04, q03] <;> rfl), by first | exact Kd.R_nil _ _ _ _ _ | exact Kd.N_nil _ _ _ _ _ | exact Kd.V_nil _ _ _ _ _ | exact Kd.Q_nil _ _ _ _ _ | exact Kd.S_nil _ _ _ _ _, by repeat (first | (with_reducible first | exact HB.out | apply bA | apply bN | apply bD | refine bS ?_ GE284.out) | exact HB.out)⟩
 case n4 =>
  simp only [Option.some.injEq, Prod.mk.injEq] at H
  obtain ⟨rfl, rfl⟩ := H
  go_enter Tryd.func60, Tryd.ntmps60
  go_wp2_with (first | ((with_reducible refine q05 (N := 2) rfl ?_); refine box0 rfl (N := 2) rfl (cs := #[.slice A0_0 l0_0.length c0_0, .bool a0_1]) (t := 24) zh (z7 HB.out) ?_; clear HB; intro gb284 w22 BK284 GW284 HB; have GE284 := GW284; obtain ⟨hczL_0, hczL_1, hfzL_0, hfzL_1⟩ := bk2 BK284.out) | ((with_reducible refine q07 (f := 110) rfl ?_); refine q0j (some 10) rfl rfl Tryd.func110 (by kernel_rfl) rfl #[.agg #[.slice A0_0 l0_0.length c0_0, .bool a0_1], .int .i64 a1] rfl zc ?_; (with_reducible refine (dom_ask.calls k _ _ l0_0 a0_1 a1 t285 _ ?side1 ?side2 A3.out).mono ?_); (case side1 => repeat (first | exact (Kd.C_below HR0_0.out HB.out) | (with_reducible refine cA ?_ _) | (with_reducible refine cN ?_ _) | (with_reducible refine cD ?_))); (case side2 => exact HC0_0.out); rintro e w24 ⟨rfl, hb⟩; refine ⟨_, rfl, ?_⟩; replace BK284 := aS (q02 (g := gb284) (o := .cells #[.slice A0_0 l0_0.length c0_0, .bool a0_1] 24 (0, 0)) (za BK284.out) hb); replace HB := aS (q00 (z6 HB.out GE284.out) hb); (try clear hb); (try clear hb2); (try clear hk); (try clear hi)))
  go_ret2
  exact ⟨_, by first | rfl | (simp [q04, q03] <;> rfl) | (simp [*, q04, q03] <;> rfl), by first | exact Kd.R_nil _ _ _ _ _ | exact Kd.N_nil _ _ _ _ _ | exact Kd.V_nil _ _ _ _ _ | exact Kd.Q_nil _ _ _ _ _ | exact Kd.S_nil _ _ _ _ _, by repeat (first | (with_reducible first | exact HB.out | apply bA | apply bN | apply bD | refine bS ?_ GE284.out) | exact HB.out)⟩
mutual
def dom_Attr.j0 : Nat → Int → ByteArray → Int → Bool → List (S43) → Bool → Option (ByteArray × Bool × Int)
 | 0, _, _, _, _, _, _ => none
 | k + 1, x1, x2, x9, x24, x293000, x293001 => if x24 = true then (dom_Attr.j1 k x1 x2 7 x293000 x293001) else (dom_Attr.j1 k x1 x2 x9 x293000 x293001)
def dom_Attr.j1 : Nat → Int → ByteArray → Int → List (S43) → Bool → Option (ByteArray × Bool × Int)
 | 0, _, _, _, _, _ => none
 | k + 1, x1, x2, x9, x293000, x293001 => if x9 = 0 then (if 0 ≤ x1 then (if x1 < (x293000.length : Int) then ((dom_find.f ((q01 x293000 x1).f2) x2).bind fun t296 => (if t296 < 0 then (some ((⟨#[]⟩ : ByteArray), false, 0)) else (if 0 ≤ t296 then (if t296 < (((q01 x293000 x1).f2).length : Int) then (some ((q0a ((q01 x293000 x1).f2) t296).f1, true, 0)) else (none)) else (none)))) else (none)) else (none)) else (some ((⟨#[]⟩ : ByteArray), false, x9))
end
def dom_Attr.f (k : Nat) (l0_0 : List (S43)) (a0_1 : Bool) (a1 : Int) (a2 : ByteArray) : Option (ByteArray × Bool × Int) := (dom_ask.f k l0_0 a0_1 a1).bind fun t293 => (if t293 = 0 then (if 0 ≤ a1 then (if a1 < (l0_0.length : Int) then (dom_Attr.j0 k a1 a2 t293 (((q01 l0_0 a1).f0) != 2) l0_0 a0_1) else (none)) else (none)) else (dom_Attr.j0 k a1 a2 t293 false l0_0 a0_1))
theorem dom_Attr.mono_l : ∀ k, (∀ y0 y1 y2 y3 y4 y5, LeO (dom_Attr.j0 k y0 y1 y2 y3 y4 y5) (dom_Attr.j0 (k + 1) y0 y1 y2 y3 y4 y5)) ∧ (∀ y0 y1 y2 y3 y4, LeO (dom_Attr.j1 k y0 y1 y2 y3 y4) (dom_Attr.j1 (k + 1) y0 y1 y2 y3 y4))
 | 0 => ⟨fun _ _ _ _ _ _ r h => by simp [dom_Attr.j0] at h, fun _ _ _ _ _ r h => by simp [dom_Attr.j1] at h⟩
 | k + 1 => by
  obtain ⟨ih0, ih1⟩ := dom_Attr.mono_l k
  refine ⟨?_, ?_⟩
  all_goals intros
  all_goals (first | unfold dom_Attr.j0 | unfold dom_Attr.j1)
  all_goals (repeat' first | with_reducible first | apply ih0 | apply ih1 | apply dom_ask.mono | exact LeO.refl _ | exact LeO.none _ | refine LeO.ite ?_ ?_ | refine LeO.bind ?_ (fun _ => ?_) | (first | apply ih0 | apply ih1 | apply dom_ask.mono | exact LeO.none _ | refine LeO.ite ?_ ?_ | refine LeO.bind ?_ (fun _ => ?_)))
theorem dom_Attr.mono : ∀ a0 a1 a2 a3 k, LeO (dom_Attr.f k a0 a1 a2 a3) (dom_Attr.f (k + 1) a0 a1 a2 a3) := by
 intro a0 a1 a2 a3 k
 obtain ⟨ih0, ih1⟩ := dom_Attr.mono_l k
 unfold dom_Attr.f
 repeat' first | with_reducible first | apply ih0 | apply ih1 | apply dom_ask.mono | exact LeO.refl _ | exact LeO.none _ | refine LeO.ite ?_ ?_ | refine LeO.bind ?_ (fun _ => ?_) | (first | apply ih0 | apply ih1 | apply dom_ask.mono | exact LeO.none _ | refine LeO.ite ?_ ?_ | refine LeO.bind ?_ (fun _ => ?_))
set_option maxHeartbeats 8000000 in
set_option maxRecDepth 100000 in
theorem dom_Attr.calls (k : Nat) (A0_0 : Option Addr) (c0_0 : Nat) (l0_0 : List (S43)) (a0_1 : Bool) (a1 : Int) (a2 : ByteArray) (r1 : ByteArray) (r2 : Bool) (r3 : Int) (w : World) (hr0_0 : Kd.C k43 w A0_0 l0_0.length l0_0) (hc0_0 : l0_0.length ≤ c0_0) (h : dom_Attr.f k l0_0 a0_1 a1 a2 = some (r1, r2, r3)) :
 Calls Tryd.prog 61 #[.agg #[.slice A0_0 l0_0.length c0_0, .bool a0_1], .int .i64 a1, .string a2] w fun e w' => e = .returned (.tuple #[.string r1, .bool r2, .int .i64 r3]) ∧ Below w.heap.size w w' := by
 have hu24 := Tryd.underlying24
 have HR0_0 := aS hr0_0
 have HC0_0 := aS hc0_0
 clear hr0_0 hc0_0
 have HB := aS (Below.refl w.heap.size w)
 have H := h; clear h; unfold dom_Attr.f at H
 replace H := iB H
 obtain ⟨t293, A4, H⟩ := H
 have HC5 := aS H
 clear H
 go_enter Tryd.func61, Tryd.ntmps61
 go_upto_region 2 with (first | ((with_reducible refine q05 (N := 3) rfl ?_); refine box0 rfl (N := 3) rfl (cs := #[.slice A0_0 l0_0.length c0_0, .bool a0_1]) (t := 24) zh (z7 HB.out) ?_; clear HB; intro gb292 w6 BK292 GW292 HB; have GE292 := GW292; obtain ⟨hcz7_0, hcz7_1, hfz7_0, hfz7_1⟩ := bk2 BK292.out) | ((with_reducible refine q07 (f := 110) rfl ?_); refine q0j (some 13) rfl rfl Tryd.func110 (by kernel_rfl) rfl #[.agg #[.slice A0_0 l0_0.length c0_0, .bool a0_1], .int .i64 a1] rfl zc ?_; (with_reducible refine (dom_ask.calls k _ _ l0_0 a0_1 a1 t293 _ ?side1 ?side2 A4.out).mono ?_); (case side1 => repeat (first | exact (Kd.C_below HR0_0.out HB.out) | (with_reducible refine cA ?_ _) | (with_reducible refine cN ?_ _) | (with_reducible refine cD ?_))); (case side2 => exact HC0_0.out); rintro e w8 ⟨rfl, hb⟩; refine ⟨_, rfl, ?_⟩; replace BK292 := aS (q02 (g := gb292) (o := .cells #[.slice A0_0 l0_0.length c0_0, .bool a0_1] 24 (0, 0)) (za BK292.out) hb); replace HB := aS (q00 (z6 HB.out GE292.out) hb); (try clear hb); (try clear hb2); (try clear hk); (try clear hi)))
 (try simp only [Act.put, s1, s2, s3])
 go_cut [24] (fun v24 wc => ∃ (kq : Nat) (x24_4 : Bool), v24 = .bool x24_4 ∧ Aside0 (dom_Attr.j0 kq a1 a2 t293 x24_4 l0_0 a0_1 = some (r1, r2, r3)) ∧ Aside0 (kq ≤ k) ∧ Aside0 (wc.heap[gb292]? = some (.cells #[(.slice A0_0 l0_0.length c0_0), .bool a0_1] 24 (0, 0))) ∧ Aside0 (Below w.heap.size w wc))
 case first =>
  have H := HC5.out
  clear HC5
  refine iE H ?p9 ?n9 <;> clear H
  case' p9 =>
   intro c9b0 c9b1 H
   (first | rw [c9b0] | (simp only [q0d, q0f]; rw [c9b0]) | skip)
   obtain ⟨hczL_0, hczL_1, hfzL_0, hfzL_1⟩ := bk2 BK292.out
   refine iLp H ?_; clear H; intro c10b0 H
   refine iTp H ?_; clear H; intro c11b0 H
  case' n9 => intro c9 c9b0 c9b1 H
  case p9 =>
   have H' := aS H
   clear H
   obtain ⟨ad294, A294_2, c294_2, A294_5, c294_5, e294, hx294_0, hx294_1, hx294_2, hx294_3, hx294_4, hx294_5, HC294_2, HR294_2, HC294_5, HR294_5, p294, q294⟩ := q0h HB.out HR0_0.out a1 zb zb
   cases e294
   go_wp2
   go_meet
   case rel => exact ⟨_, ((((q01 l0_0 a1).f0) != 2)), zi, H', ⟨by first | omega | exact Nat.le_refl _⟩, ⟨by (with_reducible repeat (first | refine kN ?_ _ | refine kD ?_ | refine kA ?_ _)); exact BK292.out⟩, ⟨by repeat (first | (with_reducible first | exact HB.out | apply bA | apply bN | apply bD | refine bS ?_ GE292.out) | exact HB.out)⟩⟩
  case n9 =>
   (first | rw [c9b0] | (simp only [q0d, q0f]; rw [c9b0]) | skip)
   have H' := aS H
   clear H
   go_wp2
   go_meet
   case rel => exact ⟨_, _, zi, H', ⟨by first | omega | exact Nat.le_refl _⟩, ⟨by (with_reducible repeat (first | refine kN ?_ _ | refine kD ?_ | refine kA ?_ _)); exact BK292.out⟩, ⟨by repeat (first | (with_reducible first | exact HB.out | apply bA | apply bN | apply bD | refine bS ?_ GE292.out) | exact HB.out)⟩⟩
 case rest =>
  clear HC5
  obtain ⟨kq, x24_4, rfl, HA, HJ4, BK292, HB⟩ := hcut
  cases kq with
  | zero => exact absurd HA.out (by simp [dom_Attr.j0])
  | succ kj4 =>
   have H := HA.out
   clear HA
   simp only [dom_Attr.j0] at H
   have HC13 := aS H
   clear H
   go_upto_if 24 with (fail)
   go_cut [9] (fun v9 wc => ∃ (kq : Nat) (x9_12 : Int), v9 = .int .i64 x9_12 ∧ Aside0 (dom_Attr.j1 kq a1 a2 x9_12 l0_0 a0_1 = some (r1, r2, r3)) ∧ Aside0 (kq ≤ kj4) ∧ Aside0 (wc.heap[gb292]? = some (.cells #[(.slice A0_0 l0_0.length c0_0), .bool a0_1] 24 (0, 0))) ∧ Aside0 (Below w.heap.size w wc))
   case first =>
    have H := HC13.out
    clear HC13
    refine iV H ?p14 ?n14 <;> clear H
    case' p14 => intro c14 H; subst c14
    case' n14 => intro c14 H; subst c14
    case p14 =>
     have H' := aS H
     clear H
     go_wp2
     go_meet
     case rel => exact ⟨_, (7), zi, H', ⟨by have := HJ4.out; first | omega | exact Nat.le_refl _⟩, ⟨by (with_reducible repeat (first | refine kN ?_ _ | refine kD ?_ | refine kA ?_ _)); exact BK292.out⟩, ⟨by repeat (first | (with_reducible first | exact HB.out | apply bA | apply bN | apply bD | refine bS ?_ GE292.out) | exact HB.out)⟩⟩
    case n14 =>
     have H' := aS H
     clear H
     go_wp2
     go_meet
     case rel => exact ⟨_, (t293), zi, H', ⟨by have := HJ4.out; first | omega | exact Nat.le_refl _⟩, ⟨by (with_reducible repeat (first | refine kN ?_ _ | refine kD ?_ | refine kA ?_ _)); exact BK292.out⟩, ⟨by repeat (first | (with_reducible first | exact HB.out | apply bA | apply bN | apply bD | refine bS ?_ GE292.out) | exact HB.out)⟩⟩
   case rest =>
    clear HC13
    obtain ⟨kq, x9_12, rfl, HA, HJ12, BK292, HB⟩ := hcut
    cases kq with
    | zero => exact absurd HA.out (by simp [dom_Attr.j1])
    | succ kj12 =>
     have H := HA.out
     clear HA
     simp only [dom_Attr.j1] at H
     refine iE H ?p15 ?n15 <;> clear H
     case' p15 =>
      intro c15b0 c15b1 H
      obtain ⟨hczL_0, hczL_1, hfzL_0, hfzL_1⟩ := bk2 BK292.out
      refine iLp H ?_; clear H; intro c16b0 H
      refine iTp H ?_; clear H; intro c17b0 H
      replace H := iB H
      obtain ⟨t296, A18, H⟩ := H
      refine iT H ?p19 ?n19 <;> clear H
     case' p19 => intro c19b0 H
     case' n19 => intro c19b0 H; refine iLp H ?_; clear H; intro c22b0 H; refine iTp H ?_; clear H; intro c23b0 H
     case' n15 => intro c15 c15b0 c15b1 H
     case p19 =>
      simp only [Option.some.injEq, Prod.mk.injEq] at H
      obtain ⟨rfl, rfl, rfl⟩ := H
      obtain ⟨ad295, A295_2, c295_2, A295_5, c295_5, e295, hx295_0, hx295_1, hx295_2, hx295_3, hx295_4, hx295_5, HC295_2, HR295_2, HC295_5, HR295_5, p295, q295⟩ := q0h HB.out HR0_0.out a1 zb zb
      cases e295
      go_wp2_with (first | ((with_reducible refine q07 (f := 112) rfl ?_); refine q0j (some 35) rfl rfl Tryd.func112 (by kernel_rfl) rfl #[.slice A295_2 ((q01 l0_0 a1).f2).length c295_2, .string a2] rfl zc ?_; (with_reducible refine (dom_find.calls _ _ ((q01 l0_0 a1).f2) a2 t296 _ ?side1 ?side2 A18.out).mono ?_); (case side1 => repeat (first | exact (Kd.C_below HR295_2.out HB.out) | (with_reducible refine cA ?_ _) | (with_reducible refine cN ?_ _) | (with_reducible refine cD ?_))); (case side2 => exact HC295_2.out); rintro e w21 ⟨rfl, hb⟩; refine ⟨_, rfl, ?_⟩; replace BK292 := aS (q02 (g := gb292) (o := .cells #[.slice (some ad295) l0_0.length c0_0, .bool a0_1] 24 (0, 0)) (za BK292.out) hb); replace HB := aS (q00 (z6 HB.out GE292.out) hb); (try clear hb); (try clear hb2); (try clear hk); (try clear hi)))
      go_ret3
      exact ⟨by first | rfl | (simp [q04, q03] <;> rfl) | (simp [*, q04, q03] <;> rfl), by repeat (first | (with_reducible first | exact HB.out | apply bA | apply bN | apply bD | refine bS ?_ GE292.out) | exact HB.out)⟩
     case n19 =>
      simp only [Option.some.injEq, Prod.mk.injEq] at H
      obtain ⟨rfl, rfl, rfl⟩ := H
      obtain ⟨ad295, A295_2, c295_2, A295_5, c295_5, e295, hx295_0, hx295_1, hx295_2, hx295_3, hx295_4, hx295_5, HC295_2, HR295_2, HC295_5, HR295_5, p295, q295⟩ := q0h HB.out HR0_0.out a1 zb zb
      cases e295
      go_wp2_with (first | ((with_reducible refine q07 (f := 112) rfl ?_); refine q0j (some 35) rfl rfl Tryd.func112 (by kernel_rfl) rfl #[.slice A295_2 ((q01 l0_0 a1).f2).length c295_2, .string a2] rfl zc ?_; (with_reducible refine (dom_find.calls _ _ ((q01 l0_0 a1).f2) a2 t296 _ ?side1 ?side2 A18.out).mono ?_); (case side1 => repeat (first | exact (Kd.C_below HR295_2.out HB.out) | (with_reducible refine cA ?_ _) | (with_reducible refine cN ?_ _) | (with_reducible refine cD ?_))); (case side2 => exact HC295_2.out); rintro e w25 ⟨rfl, hb⟩; refine ⟨_, rfl, ?_⟩; replace BK292 := aS (q02 (g := gb292) (o := .cells #[.slice (some ad295) l0_0.length c0_0, .bool a0_1] 24 (0, 0)) (za BK292.out) hb); replace HB := aS (q00 (z6 HB.out GE292.out) hb); (try clear hb); (try clear hb2); (try clear hk); (try clear hi); obtain ⟨hczL_0, hczL_1, hfzL_0, hfzL_1⟩ := bk2 BK292.out; obtain ⟨ad297, A297_2, c297_2, A297_5, c297_5, e297, hx297_0, hx297_1, hx297_2, hx297_3, hx297_4, hx297_5, HC297_2, HR297_2, HC297_5, HR297_5, p297, q297⟩ := q0h HB.out HR0_0.out a1 zb zb; obtain rfl : ad295 = ad297 := (by injection e297); obtain ⟨ad298, e298, hx298_0, hx298_1, p298, q298⟩ := q0z HB.out HR297_2.out t296 zb zb; cases e298))
      go_ret3
      exact ⟨by first | rfl | (simp [q04, q03] <;> rfl) | (simp [*, q04, q03] <;> rfl), by repeat (first | (with_reducible first | exact HB.out | apply bA | apply bN | apply bD | refine bS ?_ GE292.out) | exact HB.out)⟩
     case n15 =>
      simp only [Option.some.injEq, Prod.mk.injEq] at H
      obtain ⟨rfl, rfl, rfl⟩ := H
      go_wp2
      go_ret3
      exact ⟨by first | rfl | (simp [q04, q03] <;> rfl) | (simp [*, q04, q03] <;> rfl), by repeat (first | (with_reducible first | exact HB.out | apply bA | apply bN | apply bD | refine bS ?_ GE292.out) | exact HB.out)⟩
def dom_TextOf.l0 : Nat → ByteArray → List Int → Int → Int → List (S43) → Bool → Option (ByteArray × Int)
 | 0, _, _, _, _, _, _ => none
 | k + 1, x7, x31, x32, x33, x300000, x300001 => if x33 < x32 then (if 0 ≤ x33 then (if x33 < (x31.length : Int) then (if 0 ≤ (rd x31 x33) then (if (rd x31 x33) < (x300000.length : Int) then (if ((q01 x300000 (rd x31 x33)).f0) = 3 then (if x7.size + ((q01 x300000 (rd x31 x33)).f3).size ≤ 9223372036854775807 then (dom_TextOf.l0 k (x7 ++ ((q01 x300000 (rd x31 x33)).f3)) x31 x32 (wrap64 (x33 + 1)) x300000 x300001) else (none)) else (dom_TextOf.l0 k x7 x31 x32 (wrap64 (x33 + 1)) x300000 x300001)) else (none)) else (none)) else (none)) else (none)) else (some (x7, 0))
def dom_TextOf.f (k : Nat) (l0_0 : List (S43)) (a0_1 : Bool) (a1 : Int) : Option (ByteArray × Int) := (dom_ask.f k l0_0 a0_1 a1).bind fun t300 => (if t300 = 0 then (if 0 ≤ a1 then (if a1 < (l0_0.length : Int) then (if ((q01 l0_0 a1).f0) = 4 then (some ((q01 l0_0 a1).f3, 0)) else ((dom_walk.f k l0_0 a0_1 a1 ([] : List Int)).bind fun t303 => (dom_TextOf.l0 k (⟨#[]⟩ : ByteArray) t303 (t303.length : Int) 0 l0_0 a0_1))) else (none)) else (none)) else (some ((⟨#[]⟩ : ByteArray), t300)))
theorem dom_TextOf.mono_l : ∀ k, (∀ y0 y1 y2 y3 y4 y5, LeO (dom_TextOf.l0 k y0 y1 y2 y3 y4 y5) (dom_TextOf.l0 (k + 1) y0 y1 y2 y3 y4 y5))
 | 0 => fun _ _ _ _ _ _ r h => by simp [dom_TextOf.l0] at h
 | k + 1 => by
  have ih0 := dom_TextOf.mono_l k
  ·intro y0 y1 y2 y3 y4 y5
   unfold dom_TextOf.l0
   repeat' first | with_reducible first | apply ih0 | apply dom_ask.mono | apply dom_walk.mono | exact LeO.refl _ | exact LeO.none _ | refine LeO.ite ?_ ?_ | refine LeO.bind ?_ (fun _ => ?_) | (first | apply ih0 | apply dom_ask.mono | apply dom_walk.mono | exact LeO.none _ | refine LeO.ite ?_ ?_ | refine LeO.bind ?_ (fun _ => ?_))
theorem dom_TextOf.mono : ∀ a0 a1 a2 k, LeO (dom_TextOf.f k a0 a1 a2) (dom_TextOf.f (k + 1) a0 a1 a2) := by
 intro a0 a1 a2 k
 have ih0 := dom_TextOf.mono_l k
 unfold dom_TextOf.f
 repeat' first | with_reducible first | apply ih0 | apply dom_ask.mono | apply dom_walk.mono | exact LeO.refl _ | exact LeO.none _ | refine LeO.ite ?_ ?_ | refine LeO.bind ?_ (fun _ => ?_) | (first | apply ih0 | apply dom_ask.mono | apply dom_walk.mono | exact LeO.none _ | refine LeO.ite ?_ ?_ | refine LeO.bind ?_ (fun _ => ?_))
set_option maxHeartbeats 8000000 in
set_option maxRecDepth 100000 in
theorem dom_TextOf.calls (k : Nat) (A0_0 : Option Addr) (c0_0 : Nat) (l0_0 : List (S43)) (a0_1 : Bool) (a1 : Int) (r1 : ByteArray) (r2 : Int) (w : World) (hr0_0 : Kd.C k43 w A0_0 l0_0.length l0_0) (hc0_0 : l0_0.length ≤ c0_0) (h : dom_TextOf.f k l0_0 a0_1 a1 = some (r1, r2)) :
 Calls Tryd.prog 62 #[.agg #[.slice A0_0 l0_0.length c0_0, .bool a0_1], .int .i64 a1] w fun e w' => e = .returned (.tuple #[.string r1, .int .i64 r2]) ∧ Below w.heap.size w w' := by
 have hu24 := Tryd.underlying24
 have HR0_0 := aS hr0_0
 have HC0_0 := aS hc0_0
 clear hr0_0 hc0_0
 have HB := aS (Below.refl w.heap.size w)
 have H := h; clear h; unfold dom_TextOf.f at H
 replace H := iB H
 obtain ⟨t300, A3, H⟩ := H
 refine iE H ?p4 ?n4 <;> clear H
 case' p4 => intro c4b0 c4b1 H; refine iLp H ?_; clear H; intro c5b0 H; refine iTp H ?_; clear H; intro c6b0 H; refine iE H ?p7 ?n7 <;> clear H
 case' p7 => intro c7b0 c7b1 H
 case' n7 => intro c7 c7b0 c7b1 H
 case' n4 => intro c4 c4b0 c4b1 H
 case p7 =>
  simp only [Option.some.injEq, Prod.mk.injEq] at H
  obtain ⟨rfl, rfl⟩ := H
  go_enter Tryd.func62, Tryd.ntmps62
  go_wp2_with (first | ((with_reducible refine q05 (N := 2) rfl ?_); refine box0 rfl (N := 2) rfl (cs := #[.slice A0_0 l0_0.length c0_0, .bool a0_1]) (t := 24) zh (z7 HB.out) ?_; clear HB; intro gb299 w8 BK299 GW299 HB; have GE299 := GW299; obtain ⟨hczL_0, hczL_1, hfzL_0, hfzL_1⟩ := bk2 BK299.out) | ((with_reducible refine q07 (f := 110) rfl ?_); refine q0j (some 12) rfl rfl Tryd.func110 (by kernel_rfl) rfl #[.agg #[.slice A0_0 l0_0.length c0_0, .bool a0_1], .int .i64 a1] rfl zc ?_; (with_reducible refine (dom_ask.calls k _ _ l0_0 a0_1 a1 t300 _ ?side1 ?side2 A3.out).mono ?_); (case side1 => repeat (first | exact (Kd.C_below HR0_0.out HB.out) | (with_reducible refine cA ?_ _) | (with_reducible refine cN ?_ _) | (with_reducible refine cD ?_))); (case side2 => exact HC0_0.out); rintro e w10 ⟨rfl, hb⟩; refine ⟨_, rfl, ?_⟩; replace BK299 := aS (q02 (g := gb299) (o := .cells #[.slice A0_0 l0_0.length c0_0, .bool a0_1] 24 (0, 0)) (za BK299.out) hb); replace HB := aS (q00 (z6 HB.out GE299.out) hb); (try clear hb); (try clear hb2); (try clear hk); (try clear hi); obtain ⟨hczL_0, hczL_1, hfzL_0, hfzL_1⟩ := bk2 BK299.out; obtain ⟨ad301, A301_2, c301_2, A301_5, c301_5, e301, hx301_0, hx301_1, hx301_2, hx301_3, hx301_4, hx301_5, HC301_2, HR301_2, HC301_5, HR301_5, p301, q301⟩ := q0h HB.out HR0_0.out a1 zb zb; cases e301; obtain ⟨ad302, A302_2, c302_2, A302_5, c302_5, e302, hx302_0, hx302_1, hx302_2, hx302_3, hx302_4, hx302_5, HC302_2, HR302_2, HC302_5, HR302_5, p302, q302⟩ := q0h HB.out HR0_0.out a1 zb zb; obtain rfl : ad301 = ad302 := (by injection e302); have ea_ := Option.some.inj (hx301_2.symm.trans hx302_2); injection ea_ with ea_ en_ ec_; subst ea_; subst ec_; clear en_; have ea_ := Option.some.inj (hx301_5.symm.trans hx302_5); injection ea_ with ea_ en_ ec_; subst ea_; subst ec_; clear en_))
  go_ret2
  exact ⟨by first | rfl | (simp [q04, q03] <;> rfl) | (simp [*, q04, q03] <;> rfl), by repeat (first | (with_reducible first | exact HB.out | apply bA | apply bN | apply bD | refine bS ?_ GE299.out) | exact HB.out)⟩
 case n7 =>
  replace H := iB H
  obtain ⟨t303, A12, H⟩ := H
  have H' := aS H
  clear H
  go_enter Tryd.func62, Tryd.ntmps62
  go_wp2_with (first | ((with_reducible refine q05 (N := 2) rfl ?_); refine box0 rfl (N := 2) rfl (cs := #[.slice A0_0 l0_0.length c0_0, .bool a0_1]) (t := 24) zh (z7 HB.out) ?_; clear HB; intro gb299 w13 BK299 GW299 HB; have GE299 := GW299; obtain ⟨hczL_0, hczL_1, hfzL_0, hfzL_1⟩ := bk2 BK299.out) | ((with_reducible refine q07 (f := 110) rfl ?_); refine q0j (some 12) rfl rfl Tryd.func110 (by kernel_rfl) rfl #[.agg #[.slice A0_0 l0_0.length c0_0, .bool a0_1], .int .i64 a1] rfl zc ?_; (with_reducible refine (dom_ask.calls k _ _ l0_0 a0_1 a1 t300 _ ?side1 ?side2 A3.out).mono ?_); (case side1 => repeat (first | exact (Kd.C_below HR0_0.out HB.out) | (with_reducible refine cA ?_ _) | (with_reducible refine cN ?_ _) | (with_reducible refine cD ?_))); (case side2 => exact HC0_0.out); rintro e w15 ⟨rfl, hb⟩; refine ⟨_, rfl, ?_⟩; replace BK299 := aS (q02 (g := gb299) (o := .cells #[.slice A0_0 l0_0.length c0_0, .bool a0_1] 24 (0, 0)) (za BK299.out) hb); replace HB := aS (q00 (z6 HB.out GE299.out) hb); (try clear hb); (try clear hb2); (try clear hk); (try clear hi); obtain ⟨hczL_0, hczL_1, hfzL_0, hfzL_1⟩ := bk2 BK299.out; obtain ⟨ad301, A301_2, c301_2, A301_5, c301_5, e301, hx301_0, hx301_1, hx301_2, hx301_3, hx301_4, hx301_5, HC301_2, HR301_2, HC301_5, HR301_5, p301, q301⟩ := q0h HB.out HR0_0.out a1 zb zb; cases e301) | ((with_reducible refine q07 (f := 109) rfl ?_); refine q0j (some 31) rfl rfl Tryd.func109 (by kernel_rfl) rfl #[.agg #[.slice (some ad301) l0_0.length c0_0, .bool a0_1], .int .i64 a1, .slice none 0 0] rfl zc ?_; (refine (dom_walk.calls k _ _ l0_0 a0_1 a1 (fun k_ => some k_ = (.slice none 0 0 : Value).ownBlock) (.slice none 0 0) ([] : List Int) t303 w _ ?side1 ?side2 ?side3 ?side4 A12.out).mono ?_); (case side1 => repeat (first | (with_reducible first | exact HB.out | apply bA | apply bN | apply bD | refine bS ?_ GE299.out) | exact HB.out)); (case side2 => exact Kd.C_kept_came k43_heap HR0_0.out (z6 HB.out GE299.out) (fun k_ hs_ => (fun e_ => by simp [Value.ownBlock] at e_) hs_)); (case side3 => exact HC0_0.out); (case side4 => exact Kd.R_nil _ _ _ _ _); rintro e w17 ⟨v304, rfl, ho0, hb, hkp⟩; refine ⟨_, rfl, ?_⟩; replace BK299 := aS (blk_kept (za BK299.out) hkp (fun hs_ => (fun e_ => by simp [Value.ownBlock] at e_) hs_)); have HO305 := aS (Kd.R_mono (ok' := fun k_ => True) ho0 (fun k_ hk_ => trivial)); replace HB := aS (hb); (try clear hb); (try clear hkp); (try clear ho0); obtain ⟨Ao18, co18, eo18⟩ := Kd.R_slice HO305.out; subst eo18))
  go_loopg [7, 33] k (fun kq v7 v33 w' => ∃ (x7_1 : ByteArray) (x33_1 : Int), v7 = .string x7_1 ∧ v33 = .int .i64 x33_1 ∧ Aside0 (dom_TextOf.l0 kq x7_1 t303 (t303.length : Int) x33_1 l0_0 a0_1 = some (r1, r2)) ∧ Aside0 (kq ≤ k) ∧ Aside0 (Kd.R (Kd.int .i64) 3 w' w.heap.size (fun _ => True) (.slice Ao18 t303.length co18) t303) ∧ Aside0 (w'.heap[gb299]? = some (.cells #[(.slice (some ad301) l0_0.length c0_0), .bool a0_1] 24 (0, 0))) ∧ Aside0 (Below w.heap.size w w'))
  case atStart => exact ⟨((⟨#[]⟩ : ByteArray)), (0), zi, zi, H', ⟨Nat.le_refl _⟩, ⟨by (with_reducible repeat (first | apply rA | apply rN | apply rD)); exact HO305.out⟩, ⟨by (with_reducible repeat (first | refine kN ?_ _ | refine kD ?_ | refine kA ?_ _)); exact BK299.out⟩, ⟨by repeat (first | (with_reducible first | exact HB.out | apply bA | apply bN | apply bD | refine bS ?_ GE299.out) | exact HB.out)⟩⟩
  case round =>
   clear H'
   obtain ⟨x7_1, x33_1, rfl, rfl, HA, HK1, HO_31, BK299, HB⟩ := hrel
   cases gk with
   | zero => exact absurd HA.out (by simp [dom_TextOf.l0])
   | succ k1 =>
    have H := HA.out
    clear HA
    simp only [dom_TextOf.l0] at H
    refine iT H ?p19 ?n19 <;> clear H
    case' p19 => intro c19b0 H; refine iLp H ?_; clear H; intro c20b0 H; refine iTp H ?_; clear H; intro c21b0 H; refine iLp H ?_; clear H; intro c22b0 H; refine iTp H ?_; clear H; intro c23b0 H; refine iE H ?p24 ?n24 <;> clear H
    case' p24 => intro c24b0 c24b1 H; refine iGp H ?_; clear H; intro c25 H; have c25b0 := eq_true c25; have c25b1 : decide (x7_1.size + ((q01 l0_0 (rd t303 x33_1)).f3).size ≤ 9223372036854775807) = true := decide_eq_true c25
    case' n24 => intro c24 c24b0 c24b1 H
    case' n19 => intro c19b0 H
    case p24 =>
     try have c25b2 : (9223372036854775807 < x7_1.size + ((q01 l0_0 (rd t303 x33_1)).f3).size) = False := eq_false (Nat.not_lt.2 c25)
     have H' := aS H
     clear H
     obtain ⟨ad306, e306, hx306_0, p306, q306⟩ := atIA (Kd.R_reads' HO_31.out).2.2 x33_1 zb zb
     cases e306
     obtain ⟨hczL_0, hczL_1, hfzL_0, hfzL_1⟩ := bk2 BK299.out
     obtain ⟨ad307, A307_2, c307_2, A307_5, c307_5, e307, hx307_0, hx307_1, hx307_2, hx307_3, hx307_4, hx307_5, HC307_2, HR307_2, HC307_5, HR307_5, p307, q307⟩ := q0h HB.out HR0_0.out (rd t303 x33_1) zb zb
     obtain rfl : ad301 = ad307 := (by injection e307)
     obtain ⟨ad308, A308_2, c308_2, A308_5, c308_5, e308, hx308_0, hx308_1, hx308_2, hx308_3, hx308_4, hx308_5, HC308_2, HR308_2, HC308_5, HR308_5, p308, q308⟩ := q0h HB.out HR0_0.out (rd t303 x33_1) zb zb
     obtain rfl : ad301 = ad308 := (by injection e308)
     have ea_ := Option.some.inj (hx307_2.symm.trans hx308_2)
     injection ea_ with ea_ en_ ec_
     subst ea_
     subst ec_
     clear en_
     have ea_ := Option.some.inj (hx307_5.symm.trans hx308_5)
     injection ea_ with ea_ en_ ec_
     subst ea_
     subst ec_
     clear en_
     go_wp2
     go_roundg k1
     case measure => have := HK1.out; omega
     case rel => exact ⟨(x7_1 ++ ((q01 l0_0 (rd t303 x33_1)).f3)), (wrap64 (x33_1 + 1)), zi, zi, H', ⟨by have := HK1.out; omega⟩, ⟨by (with_reducible repeat (first | apply rA | apply rN | apply rD)); exact HO_31.out⟩, ⟨by (with_reducible repeat (first | refine kN ?_ _ | refine kD ?_ | refine kA ?_ _)); exact BK299.out⟩, ⟨by repeat (first | (with_reducible first | exact HB.out | apply bA | apply bN | apply bD | refine bS ?_ GE299.out) | exact HB.out)⟩⟩
    case n24 =>
     have H' := aS H
     clear H
     obtain ⟨ad306, e306, hx306_0, p306, q306⟩ := atIA (Kd.R_reads' HO_31.out).2.2 x33_1 zb zb
     cases e306
     obtain ⟨hczL_0, hczL_1, hfzL_0, hfzL_1⟩ := bk2 BK299.out
     obtain ⟨ad307, A307_2, c307_2, A307_5, c307_5, e307, hx307_0, hx307_1, hx307_2, hx307_3, hx307_4, hx307_5, HC307_2, HR307_2, HC307_5, HR307_5, p307, q307⟩ := q0h HB.out HR0_0.out (rd t303 x33_1) zb zb
     obtain rfl : ad301 = ad307 := (by injection e307)
     go_wp2
     go_roundg k1
     case measure => have := HK1.out; omega
     case rel => exact ⟨(x7_1), (wrap64 (x33_1 + 1)), zi, zi, H', ⟨by have := HK1.out; omega⟩, ⟨by (with_reducible repeat (first | apply rA | apply rN | apply rD)); exact HO_31.out⟩, ⟨by (with_reducible repeat (first | refine kN ?_ _ | refine kD ?_ | refine kA ?_ _)); exact BK299.out⟩, ⟨by repeat (first | (with_reducible first | exact HB.out | apply bA | apply bN | apply bD | refine bS ?_ GE299.out) | exact HB.out)⟩⟩
    case n19 =>
     simp only [Option.some.injEq, Prod.mk.injEq] at H
     obtain ⟨rfl, rfl⟩ := H
     go_wp2
     go_ret2
     exact ⟨by first | rfl | (simp [q04, q03] <;> rfl) | (simp [*, q04, q03] <;> rfl), by repeat (first | (with_reducible first | exact HB.out | apply bA | apply bN | apply bD | refine bS ?_ GE299.out) | exact HB.out)⟩
 case n4 =>
  simp only [Option.some.injEq, Prod.mk.injEq] at H
  obtain ⟨rfl, rfl⟩ := H
  go_enter Tryd.func62, Tryd.ntmps62
  go_wp2_with (first | ((with_reducible refine q05 (N := 2) rfl ?_); refine box0 rfl (N := 2) rfl (cs := #[.slice A0_0 l0_0.length c0_0, .bool a0_1]) (t := 24) zh (z7 HB.out) ?_; clear HB; intro gb299 w28 BK299 GW299 HB; have GE299 := GW299; obtain ⟨hczL_0, hczL_1, hfzL_0, hfzL_1⟩ := bk2 BK299.out) | ((with_reducible refine q07 (f := 110) rfl ?_); refine q0j (some 12) rfl rfl Tryd.func110 (by kernel_rfl) rfl #[.agg #[.slice A0_0 l0_0.length c0_0, .bool a0_1], .int .i64 a1] rfl zc ?_; (with_reducible refine (dom_ask.calls k _ _ l0_0 a0_1 a1 t300 _ ?side1 ?side2 A3.out).mono ?_); (case side1 => repeat (first | exact (Kd.C_below HR0_0.out HB.out) | (with_reducible refine cA ?_ _) | (with_reducible refine cN ?_ _) | (with_reducible refine cD ?_))); (case side2 => exact HC0_0.out); rintro e w30 ⟨rfl, hb⟩; refine ⟨_, rfl, ?_⟩; replace BK299 := aS (q02 (g := gb299) (o := .cells #[.slice A0_0 l0_0.length c0_0, .bool a0_1] 24 (0, 0)) (za BK299.out) hb); replace HB := aS (q00 (z6 HB.out GE299.out) hb); (try clear hb); (try clear hb2); (try clear hk); (try clear hi)))
  go_ret2
  exact ⟨by first | rfl | (simp [q04, q03] <;> rfl) | (simp [*, q04, q03] <;> rfl), by repeat (first | (with_reducible first | exact HB.out | apply bA | apply bN | apply bD | refine bS ?_ GE299.out) | exact HB.out)⟩
end Go.Proofs.YthjnallbbhnndaaDoor.XDb
