/- Written by this session's program (wip/xp) out of the translation as Lean prints it: for each Go function a Lean function and the proof that the code answers just so, on the conditions named in each statement. -/
import Derived.Test.YthjnallbbhnndaaDoorG1
import Derived.Lib.SlTrimSet
import Derived.ProofKit
import Derived.SizedLaws
import Derived.Deep.Slices
namespace Go.Proofs.YthjnallbbhnndaaDoor.XWs
open Go.Proofs.YthjnallbbhnndaaDoor.Short Go.RowKit Go.Proofs.YthjnallbbhnndaaDoorW.PrintWords Go.Proofs.YthjnallbbhnndaaDoorW.PrintLast Go.Proofs.YthjnallbbhnndaaDoorW.PrintMore
attribute [local go_sem] max2_int min2_int max_two min_two max_three min_three max_four min_four   -- for this text's walks alone
set_option linter.unusedVariables false
set_option linter.unusedSimpArgs false
mutual
def dom_kids.l0 : Nat → List Bool → List (S43) → Int → Int → List (S43) → Bool → Option (Int)
 | 0, _, _, _, _, _, _ => none
 | k + 1, x3, x15, x16, x17, x165000, x165001 => if x17 < x16 then (if 0 ≤ x17 then (if x17 < (x15.length : Int) then (dom_kids.l1 k x3 x17 x15 x16 x17 ((q00 x15 x17).f5) (((q00 x15 x17).f5).length : Int) 0 x165000 x165001) else (none)) else (none)) else (dom_kids.l2 k x3 x165000 (x165000.length : Int) 0 x165000 x165001)
def dom_kids.l1 : Nat → List Bool → Int → List (S43) → Int → Int → List Int → Int → Int → List (S43) → Bool → Option (Int)
 | 0, _, _, _, _, _, _, _, _, _, _ => none
 | k + 1, x3, x4, x15, x16, x17, x23, x24, x25, x165000, x165001 => if x25 < x24 then (if 0 ≤ x25 then (if x25 < (x23.length : Int) then (if (rd x23 x25) < 0 then (dom_kids.j2 k x3 x4 (rd x23 x25) x15 x16 x17 x23 x24 x25 true x165000 x165001) else (if (rd x23 x25) ≥ (x3.length : Int) then (dom_kids.j2 k x3 x4 (rd x23 x25) x15 x16 x17 x23 x24 x25 true x165000 x165001) else (if 0 ≤ (rd x23 x25) then (if (rd x23 x25) < (x165000.length : Int) then (if ((q00 x165000 (rd x23 x25)).f4) = x4 then (if (rd x23 x25) < (x3.length : Int) then (dom_kids.j2 k x3 x4 (rd x23 x25) x15 x16 x17 x23 x24 x25 (rdOf false x3 (rd x23 x25)) x165000 x165001) else (none)) else (dom_kids.j2 k x3 x4 (rd x23 x25) x15 x16 x17 x23 x24 x25 true x165000 x165001)) else (none)) else (none)))) else (none)) else (none)) else (dom_kids.l0 k x3 x15 x16 (wrap64 (x17 + 1)) x165000 x165001)
def dom_kids.j2 : Nat → List Bool → Int → Int → List (S43) → Int → Int → List Int → Int → Int → Bool → List (S43) → Bool → Option (Int)
 | 0, _, _, _, _, _, _, _, _, _, _, _, _ => none
 | k + 1, x3, x4, x7, x15, x16, x17, x23, x24, x25, x29, x165000, x165001 => if x29 = true then (some 3) else (if x4 = 0 then (if 0 ≤ x7 then (if x7 < (x165000.length : Int) then (if ((q00 x165000 x7).f0) = 3 then (some 7) else (if x7 < (x3.length : Int) then (dom_kids.l1 k (x3.set (x7 : Int).toNat true) x4 x15 x16 x17 x23 x24 (wrap64 (x25 + 1)) x165000 x165001) else (none))) else (none)) else (none)) else (if 0 ≤ x7 then (if x7 < (x3.length : Int) then (dom_kids.l1 k (x3.set (x7 : Int).toNat true) x4 x15 x16 x17 x23 x24 (wrap64 (x25 + 1)) x165000 x165001) else (none)) else (none)))
def dom_kids.l2 : Nat → List Bool → List (S43) → Int → Int → List (S43) → Bool → Option (Int)
 | 0, _, _, _, _, _, _ => none
 | k + 1, x3, x72, x73, x74, x165000, x165001 => if x74 < x73 then (if 0 ≤ x74 then (if x74 < (x72.length : Int) then (if ((q00 x72 x74).f4) = (-1) then (dom_kids.l2 k x3 x72 x73 (wrap64 (x74 + 1)) x165000 x165001) else (if x74 < (x3.length : Int) then (if rdOf false x3 x74 = true then (dom_kids.l2 k x3 x72 x73 (wrap64 (x74 + 1)) x165000 x165001) else (some 3)) else (none))) else (none)) else (none)) else (if 0 < (x165000.length : Int) then (if ((q00 x165000 0).f4) = (-1) then (some 0) else (some 3)) else (none))
end
def dom_kids.f (k : Nat) (l0_0 : List (S43)) (a0_1 : Bool) : Option (Int) := if 0 ≤ (l0_0.length : Int) then (if ((l0_0.length : Int) : Int).toNat ≤ 281474976710656 then (dom_kids.l0 k (List.replicate ((l0_0.length : Int) : Int).toNat false) l0_0 (l0_0.length : Int) 0 l0_0 a0_1) else (none)) else (none)
theorem dom_kids.mono_l : ∀ k, (∀ y0 y1 y2 y3 y4 y5, LeO (dom_kids.l0 k y0 y1 y2 y3 y4 y5) (dom_kids.l0 (k + 1) y0 y1 y2 y3 y4 y5)) ∧ (∀ y0 y1 y2 y3 y4 y5 y6 y7 y8 y9, LeO (dom_kids.l1 k y0 y1 y2 y3 y4 y5 y6 y7 y8 y9) (dom_kids.l1 (k + 1) y0 y1 y2 y3 y4 y5 y6 y7 y8 y9)) ∧ (∀ y0 y1 y2 y3 y4 y5 y6 y7 y8 y9 y10 y11, LeO (dom_kids.j2 k y0 y1 y2 y3 y4 y5 y6 y7 y8 y9 y10 y11) (dom_kids.j2 (k + 1) y0 y1 y2 y3 y4 y5 y6 y7 y8 y9 y10 y11)) ∧ (∀ y0 y1 y2 y3 y4 y5, LeO (dom_kids.l2 k y0 y1 y2 y3 y4 y5) (dom_kids.l2 (k + 1) y0 y1 y2 y3 y4 y5))
 | 0 => ⟨fun _ _ _ _ _ _ r h => by simp [dom_kids.l0] at h, fun _ _ _ _ _ _ _ _ _ _ r h => by simp [dom_kids.l1] at h, fun _ _ _ _ _ _ _ _ _ _ _ _ r h => by simp [dom_kids.j2] at h, fun _ _ _ _ _ _ r h => by simp [dom_kids.l2] at h⟩
 | k + 1 => by
  obtain ⟨ih0, ih1, ih2, ih3⟩ := dom_kids.mono_l k
  refine ⟨?_, ?_, ?_, ?_⟩
  all_goals intros
  all_goals (first | unfold dom_kids.l0 | unfold dom_kids.l1 | unfold dom_kids.j2 | unfold dom_kids.l2)
  all_goals (repeat' first | with_reducible first | apply ih0 | apply ih1 | apply ih2 | apply ih3 | exact LeO.refl _ | exact LeO.none _ | refine LeO.ite ?_ ?_ | refine LeO.bind ?_ (fun _ => ?_) | (first | apply ih0 | apply ih1 | apply ih2 | apply ih3 | exact LeO.none _ | refine LeO.ite ?_ ?_ | refine LeO.bind ?_ (fun _ => ?_)))
theorem dom_kids.mono : ∀ a0 a1 k, LeO (dom_kids.f k a0 a1) (dom_kids.f (k + 1) a0 a1) := by
 intro a0 a1 k
 obtain ⟨ih0, ih1, ih2, ih3⟩ := dom_kids.mono_l k
 unfold dom_kids.f
 repeat' first | with_reducible first | apply ih0 | apply ih1 | apply ih2 | apply ih3 | exact LeO.refl _ | exact LeO.none _ | refine LeO.ite ?_ ?_ | refine LeO.bind ?_ (fun _ => ?_) | (first | apply ih0 | apply ih1 | apply ih2 | apply ih3 | exact LeO.none _ | refine LeO.ite ?_ ?_ | refine LeO.bind ?_ (fun _ => ?_))
set_option maxHeartbeats 8000000 in
set_option maxRecDepth 100000 in
theorem dom_kids.calls (k : Nat) (A0_0 : Option Addr) (c0_0 : Nat) (l0_0 : List (S43)) (a0_1 : Bool) (r : Int) (w : World) (hr0_0 : Kd.C k43 w A0_0 l0_0.length l0_0) (hc0_0 : l0_0.length ≤ c0_0) (h : dom_kids.f k l0_0 a0_1 = some r) :
 Calls Tryd.prog 101 #[.agg #[.slice A0_0 l0_0.length c0_0, .bool a0_1]] w fun e w' => e = .returned (.int .i64 r) ∧ Below w.heap.size w w' := by
 have hu24 := Tryd.underlying24
 have hu43 := Tryd.underlying43
 have HR0_0 := aS hr0_0
 have HC0_0 := aS hc0_0
 clear hr0_0 hc0_0
 have HB := aS (Below.refl w.heap.size w)
 have H := h; clear h; unfold dom_kids.f at H
 refine iGp H ?_; clear H; intro c2 H
 have c2b0 := eq_true c2
 have c2b1 : decide (0 ≤ (l0_0.length : Int)) = true := decide_eq_true c2
 clear c2
 refine iGp H ?_; clear H; intro c3 H
 have c3b0 := eq_true c3
 have c3b1 : decide (((l0_0.length : Int) : Int).toNat ≤ 281474976710656) = true := decide_eq_true c3
 clear c3
 obtain ⟨y165, hy165⟩ : ∃ y_ : List Bool, y_ = (List.replicate ((l0_0.length : Int) : Int).toNat false) := ⟨_, rfl⟩
 replace H : (dom_kids.l0 k y165 l0_0 (l0_0.length : Int) 0 l0_0 a0_1) = some r := by first | (rw [hy165]; with_reducible exact H) | (have H2_ := (Option.bind_some _ _).symm.trans H; rw [hy165]; with_reducible exact H2_) | (have H2_ := (Option.bind_some _ _).symm.trans H; with_reducible exact H2_) | with_reducible exact H | (rw [hy165]; exact H) | exact H
 have Ny165 := aS hy165
 clear hy165
 have H' := aS H
 clear H
 go_enter Tryd.func101, Tryd.ntmps101
 go_wp2_with (first | ((with_reducible refine q0g (N := 1) rfl ?_); (try (refine q0v (by rfl) ?_; dsimp only)); refine box0 rfl (N := 1) rfl (cs := #[.slice A0_0 l0_0.length c0_0, .bool a0_1]) (t := 24) zi (z6 HB.out) ?_; clear HB; intro gb164 w4 BK164 GW164 HB; have GE164 := GW164; obtain ⟨hczL_0, hczL_1, hfzL_0, hfzL_1⟩ := bk2 BK164.out) | ((with_reducible refine q0g (N := 13) rfl ?_); (try (refine q0v (by rfl) ?_; dsimp only)); refine Kd.R_make Kd.bool _ 4 rfl (N := 13) rfl 186 _ _ rfl (l0_0.length : Int) rfl rfl Tryd.underlying186 (.bool false) 1 info4 rfl (by decide) (by omega) false (ok := fun _ => True) (okp := fun _ => True) rfl (fun _ hk => hk) trivial (od za) (Nat.le_trans (Nat.mul_le_mul_right _ (od za : (l0_0.length : Int).toNat ≤ 281474976710656)) (by omega)) (Below.refl _ _) (Nat.le_refl _) ?_; intro v166 w6 ho7 hb hg_ hnew_; clear hg_ hnew_; (first | rw [← Ny165.out] at ho7 | (simp only [Int.reduceToNat] at ho7; rw [← Ny165.out] at ho7)); have HO167 := aS (Kd.R_lower ho7 (q0h (z1 HB.out GE164.out))); replace BK164 := aS (q07 (g := gb164) (o := .cells #[.slice A0_0 l0_0.length c0_0, .bool a0_1] 24 (0, 0)) (z8 BK164.out) hb); replace HB := aS (q01 (z1 HB.out GE164.out) hb); clear hb ho7; obtain ⟨hczL_0, hczL_1, hfzL_0, hfzL_1⟩ := bk2 BK164.out))
 go_loopg [17] k (fun kq v17 w' => ∃ (x3_1 : List Bool) (x17_1 : Int), v17 = .int .i64 x17_1 ∧ Aside0 (dom_kids.l0 kq x3_1 l0_0 (l0_0.length : Int) x17_1 l0_0 a0_1 = some r) ∧ Aside0 (kq ≤ k) ∧ Aside0 (Kd.R Kd.bool 4 w' w.heap.size (fun _ => True) v166 x3_1) ∧ Aside0 (w'.heap[gb164]? = some (.cells #[(.slice A0_0 l0_0.length c0_0), .bool a0_1] 24 (0, 0))) ∧ Aside0 (Below w.heap.size w w'))
 case atStart => exact ⟨(y165), (0), zj, H', ⟨Nat.le_refl _⟩, ⟨by (with_reducible repeat (first | apply rA | apply rN | apply rD)); exact HO167.out⟩, ⟨by (with_reducible repeat (first | refine kN ?_ _ | refine kD ?_ | refine kA ?_ _)); exact BK164.out⟩, ⟨by repeat (first | (with_reducible first | exact HB.out | apply bA | apply bN | apply bD | refine bS ?_ GE164.out) | exact HB.out)⟩⟩
 case round =>
  clear H'
  obtain ⟨x3_1, x17_1, rfl, HA, HK1, HO_3, BK164, HB⟩ := hrel
  cases gk with
  | zero => exact absurd HA.out (by simp [dom_kids.l0])
  | succ k1 =>
   have H := HA.out
   clear HA
   simp only [dom_kids.l0] at H
   refine iT H ?p9 ?n9 <;> clear H
   case' p9 => intro c9b0 H; refine iLp H ?_; clear H; intro c10b0 H; refine iTp H ?_; clear H; intro c11b0 H
   case' n9 => intro c9b0 H
   case p9 =>
    have H' := aS H
    clear H
    obtain ⟨ad168, A168_2, c168_2, A168_5, c168_5, e168, hx168_0, hx168_1, hx168_2, hx168_3, hx168_4, hx168_5, HC168_2, HR168_2, HC168_5, HR168_5, p168, q168⟩ := q0m HB.out HR0_0.out x17_1 za za
    cases e168
    go_wp2_with (first | ((with_reducible refine q0g (N := 5) rfl ?_); (try (refine q0v (by rfl) ?_; dsimp only)); refine q0n ?hg (N := 5) ?hd (cs := #[.int .i64 0, .string (⟨#[]⟩ : ByteArray), .slice none 0 0, .string (⟨#[]⟩ : ByteArray), .int .i64 0, .slice none 0 0]) (t := 43) ?hr ?_; (case hd => rfl); (case hg => rfl); (case hr => first | (go_simp; done) | (go_simp; rfl)); intro gb169 hg w12 hbox hb; have n0_ := aS (Kd.R_below (zg HO_3.out) hb); have n1_ := aS (q07 (g := gb164) (o := .cells #[.slice (some ad168) l0_0.length c0_0, .bool a0_1] 24 (0, 0)) (z8 BK164.out) hb); have n2_ := aS (q01 (z1 HB.out GE164.out) hb); have n3_ := aS (hbox); have n4_ := aS ((by rw [hg]; exact (q0h (z1 HB.out GE164.out)) : w.heap.size ≤ gb169)); have n5_ := aS ((by rw [hg]; exact (q0h (z1 HB.out GE164.out)) : w.heap.size ≤ gb169)); have n6_ := aS ((by rw [hg]; exact Nat.ne_of_lt (q13 (g := gb164) (o := .cells #[.slice (some ad168) l0_0.length c0_0, .bool a0_1] 24 (0, 0)) (z8 BK164.out)) : gb164 ≠ gb169)); have n7_ := aS ((by rw [hg]; exact Nat.ne_of_gt (q13 (g := gb164) (o := .cells #[.slice (some ad168) l0_0.length c0_0, .bool a0_1] 24 (0, 0)) (z8 BK164.out)) : gb169 ≠ gb164)); clear HO_3; clear BK164; clear HB; have HO_3 := n0_; have BK164 := n1_; have HB := n2_; have BK169 := n3_; have GW169 := n4_; have GE169 := n5_; have NB164_169 := n6_; have NB169_164 := n7_; clear n0_ n1_ n2_ n3_ n4_ n5_ n6_ n7_; clear hb hbox hg; have hnb13 := NB169_164.out; have hnc13 := NB164_169.out; obtain ⟨hczL_0, hczL_1, hczL_2, hczL_3, hczL_4, hczL_5, hfzL_0, hfzL_1, hfzL_2, hfzL_3, hfzL_4, hfzL_5⟩ := bk6 BK169.out))
    go_loopg [25] k1 (fun kq v25 w' => ∃ (x3_2 : List Bool) (x25_2 : Int), v25 = .int .i64 x25_2 ∧ Aside0 (dom_kids.l1 kq x3_2 x17_1 l0_0 (l0_0.length : Int) x17_1 ((q00 l0_0 x17_1).f5) (((q00 l0_0 x17_1).f5).length : Int) x25_2 l0_0 a0_1 = some r) ∧ Aside0 (kq ≤ k1) ∧ Aside0 (Kd.R Kd.bool 4 w' w.heap.size (fun _ => True) v166 x3_2) ∧ Aside0 (w'.heap[gb164]? = some (.cells #[(.slice (some ad168) l0_0.length c0_0), .bool a0_1] 24 (0, 0))) ∧ Aside0 (w'.heap[gb169]? = some (.cells #[.int .i64 ((q00 l0_0 x17_1).f0), .string ((q00 l0_0 x17_1).f1), (.slice A168_2 ((q00 l0_0 x17_1).f2).length c168_2), .string ((q00 l0_0 x17_1).f3), .int .i64 ((q00 l0_0 x17_1).f4), (.slice A168_5 ((q00 l0_0 x17_1).f5).length c168_5)] 43 (0, 0))) ∧ Aside0 (Below w.heap.size w w'))
    case atStart => exact ⟨(x3_1), (0), zj, H', ⟨Nat.le_refl _⟩, ⟨by (with_reducible repeat (first | apply rA | apply rN | apply rD)); exact Kd.R_mono (Kd.R_far (p := ⟨gb169, 5, none⟩) (Kd.R_far (p := ⟨gb169, 4, none⟩) (Kd.R_far (p := ⟨gb169, 3, none⟩) (Kd.R_far (p := ⟨gb169, 2, none⟩) (Kd.R_far (p := ⟨gb169, 1, none⟩) (Kd.R_far (p := ⟨gb169, 0, none⟩) (Kd.R_types HO_3.out BK169.out (by decide)) (fun _ hk => hk.2) (.int .i64 ((q00 l0_0 x17_1).f0))) (fun _ hk => hk.2) (.string ((q00 l0_0 x17_1).f1))) (fun _ hk => hk.2) (.slice A168_2 ((q00 l0_0 x17_1).f2).length c168_2)) (fun _ hk => hk.2) (.string ((q00 l0_0 x17_1).f3))) (fun _ hk => hk.2) (.int .i64 ((q00 l0_0 x17_1).f4))) (fun _ hk => hk.2) (.slice A168_5 ((q00 l0_0 x17_1).f5).length c168_5)) (fun _ hk => trivial)⟩, ⟨by (with_reducible repeat (first | refine kN ?_ _ | refine kD ?_ | refine kA ?_ _)); refine q0o ?_ NB164_169.out _; (with_reducible repeat (first | refine kN ?_ _ | refine kD ?_ | refine kA ?_ _)); refine q0o ?_ NB164_169.out _; (with_reducible repeat (first | refine kN ?_ _ | refine kD ?_ | refine kA ?_ _)); refine q0o ?_ NB164_169.out _; (with_reducible repeat (first | refine kN ?_ _ | refine kD ?_ | refine kA ?_ _)); refine q0o ?_ NB164_169.out _; (with_reducible repeat (first | refine kN ?_ _ | refine kD ?_ | refine kA ?_ _)); refine q0o ?_ NB164_169.out _; (with_reducible repeat (first | refine kN ?_ _ | refine kD ?_ | refine kA ?_ _)); refine q0o ?_ NB164_169.out _; (with_reducible repeat (first | refine kN ?_ _ | refine kD ?_ | refine kA ?_ _)); exact BK164.out⟩, ⟨by (with_reducible repeat (first | refine kN ?_ _ | refine kD ?_ | refine kA ?_ _)); refine q0t (cs := #[.int .i64 ((q00 l0_0 x17_1).f0), .string ((q00 l0_0 x17_1).f1), .slice A168_2 ((q00 l0_0 x17_1).f2).length c168_2, .string ((q00 l0_0 x17_1).f3), .int .i64 ((q00 l0_0 x17_1).f4), .slice none 0 0]) ?_ 5 _ rfl; (with_reducible repeat (first | refine kN ?_ _ | refine kD ?_ | refine kA ?_ _)); refine q0t (cs := #[.int .i64 ((q00 l0_0 x17_1).f0), .string ((q00 l0_0 x17_1).f1), .slice A168_2 ((q00 l0_0 x17_1).f2).length c168_2, .string ((q00 l0_0 x17_1).f3), .int .i64 0, .slice none 0 0]) ?_ 4 _ rfl; (with_reducible repeat (first | refine kN ?_ _ | refine kD ?_ | refine kA ?_ _)); refine q0t (cs := #[.int .i64 ((q00 l0_0 x17_1).f0), .string ((q00 l0_0 x17_1).f1), .slice A168_2 ((q00 l0_0 x17_1).f2).length c168_2, .string (⟨#[]⟩ : ByteArray), .int .i64 0, .slice none 0 0]) ?_ 3 _ rfl; (with_reducible repeat (first | refine kN ?_ _ | refine kD ?_ | refine kA ?_ _)); refine q0t (cs := #[.int .i64 ((q00 l0_0 x17_1).f0), .string ((q00 l0_0 x17_1).f1), .slice none 0 0, .string (⟨#[]⟩ : ByteArray), .int .i64 0, .slice none 0 0]) ?_ 2 _ rfl; (with_reducible repeat (first | refine kN ?_ _ | refine kD ?_ | refine kA ?_ _)); refine q0t (cs := #[.int .i64 ((q00 l0_0 x17_1).f0), .string (⟨#[]⟩ : ByteArray), .slice none 0 0, .string (⟨#[]⟩ : ByteArray), .int .i64 0, .slice none 0 0]) ?_ 1 _ rfl; (with_reducible repeat (first | refine kN ?_ _ | refine kD ?_ | refine kA ?_ _)); refine q0t (cs := #[.int .i64 0, .string (⟨#[]⟩ : ByteArray), .slice none 0 0, .string (⟨#[]⟩ : ByteArray), .int .i64 0, .slice none 0 0]) ?_ 0 _ rfl; (with_reducible repeat (first | refine kN ?_ _ | refine kD ?_ | refine kA ?_ _)); exact BK169.out⟩, ⟨by repeat (first | (with_reducible first | exact HB.out | apply bA | apply bN | apply bD | refine bS ?_ GE164.out | refine bS ?_ GE169.out) | exact HB.out)⟩⟩
    case round =>
     clear H'
     obtain ⟨x3_2, x25_2, rfl, HA, HK2, HO_3, BK164, BK169, HB⟩ := hrel
     cases gk with
     | zero => exact absurd HA.out (by simp [dom_kids.l1])
     | succ k2 =>
      have H := HA.out
      clear HA
      simp only [dom_kids.l1] at H
      refine iT H ?p15 ?n15 <;> clear H
      case' p15 => intro c15b0 H; refine iLp H ?_; clear H; intro c16b0 H; refine iTp H ?_; clear H; intro c17b0 H
      case' n15 => intro c15b0 H
      case p15 =>
       have HC18 := aS H
       clear H
       obtain ⟨ad170, e170, hx170_0, p170, q170⟩ := atIB HB.out HR168_5.out x25_2 za za
       cases e170
       go_upto_region 8 with (fail)
       go_cut [29] (fun v29 wc => ∃ (kq : Nat) (x29_17 : Bool), v29 = .bool x29_17 ∧ Aside0 (dom_kids.j2 kq x3_2 x17_1 (rd ((q00 l0_0 x17_1).f5) x25_2) l0_0 (l0_0.length : Int) x17_1 ((q00 l0_0 x17_1).f5) (((q00 l0_0 x17_1).f5).length : Int) x25_2 x29_17 l0_0 a0_1 = some r) ∧ Aside0 (kq ≤ k2) ∧ Aside0 (Kd.R Kd.bool 4 wc w.heap.size (fun _ => True) v166 x3_2) ∧ Aside0 (wc.heap[gb164]? = some (.cells #[(.slice (some ad168) l0_0.length c0_0), .bool a0_1] 24 (0, 0))) ∧ Aside0 (wc.heap[gb169]? = some (.cells #[.int .i64 ((q00 l0_0 x17_1).f0), .string ((q00 l0_0 x17_1).f1), (.slice A168_2 ((q00 l0_0 x17_1).f2).length c168_2), .string ((q00 l0_0 x17_1).f3), .int .i64 ((q00 l0_0 x17_1).f4), (.slice (some ad170) ((q00 l0_0 x17_1).f5).length c168_5)] 43 (0, 0))) ∧ Aside0 (Below w.heap.size w wc))
       case first =>
        have H := HC18.out
        clear HC18
        refine iT H ?p19 ?n19 <;> clear H
        case' p19 => intro c19b0 H
        case' n19 => intro c19b0 H; (first | rw [c19b0] | (simp only [q0p, q0r]; rw [c19b0]) | skip); refine iL H ?p20 ?n20 <;> clear H
        case' p20 => intro c20b0 H
        case' n20 => intro c20b0 H; refine iLp H ?_; clear H; intro c22b0 H; refine iTp H ?_; clear H; intro c23b0 H; refine iE H ?p24 ?n24 <;> clear H
        case' p24 => intro c24b0 c24b1 H; refine iTp H ?_; clear H; intro c25b0 H
        case' n24 => intro c24 c24b0 c24b1 H
        case p19 =>
         (first | rw [c19b0] | (simp only [q0p, q0r]; rw [c19b0]) | skip)
         have H' := aS H
         clear H
         go_wp2
         go_meet
         case rel => exact ⟨_, _, zj, H', ⟨by have := HK1.out; have := HK2.out; first | omega | exact Nat.le_refl _⟩, ⟨by (with_reducible repeat (first | apply rA | apply rN | apply rD)); exact HO_3.out⟩, ⟨by (with_reducible repeat (first | refine kN ?_ _ | refine kD ?_ | refine kA ?_ _)); exact BK164.out⟩, ⟨by (with_reducible repeat (first | refine kN ?_ _ | refine kD ?_ | refine kA ?_ _)); exact BK169.out⟩, ⟨by repeat (first | (with_reducible first | exact HB.out | apply bA | apply bN | apply bD | refine bS ?_ GE164.out | refine bS ?_ GE169.out) | exact HB.out)⟩⟩
        case p20 =>
         have H' := aS H
         clear H
         obtain ⟨Ao21, co21, eo21⟩ := Kd.R_slice HO_3.out
         subst eo21
         go_wp2
         go_meet
         case rel => exact ⟨_, _, zj, H', ⟨by have := HK1.out; have := HK2.out; first | omega | exact Nat.le_refl _⟩, ⟨by (with_reducible repeat (first | apply rA | apply rN | apply rD)); exact HO_3.out⟩, ⟨by (with_reducible repeat (first | refine kN ?_ _ | refine kD ?_ | refine kA ?_ _)); exact BK164.out⟩, ⟨by (with_reducible repeat (first | refine kN ?_ _ | refine kD ?_ | refine kA ?_ _)); exact BK169.out⟩, ⟨by repeat (first | (with_reducible first | exact HB.out | apply bA | apply bN | apply bD | refine bS ?_ GE164.out | refine bS ?_ GE169.out) | exact HB.out)⟩⟩
        case p24 =>
         have H' := aS H
         clear H
         obtain ⟨Ao26, co26, eo26⟩ := Kd.R_slice HO_3.out
         subst eo26
         have hnb27 := NB164_169.out
         have hnc27 := NB169_164.out
         obtain ⟨hczL_0, hczL_1, hfzL_0, hfzL_1⟩ := bk2 BK164.out
         obtain ⟨ad171, A171_2, c171_2, A171_5, c171_5, e171, hx171_0, hx171_1, hx171_2, hx171_3, hx171_4, hx171_5, HC171_2, HR171_2, HC171_5, HR171_5, p171, q171⟩ := q0m HB.out HR0_0.out (rd ((q00 l0_0 x17_1).f5) x25_2) za za
         obtain rfl : ad168 = ad171 := (by injection e171)
         obtain ⟨ad172, e172, hx172_0, p172, q172⟩ := atOA (Kd.R_reads' HO_3.out).2.2 (rd ((q00 l0_0 x17_1).f5) x25_2) za za
         cases e172
         go_wp2
         go_meet
         case rel => exact ⟨_, (rdOf false x3_2 (rd ((q00 l0_0 x17_1).f5) x25_2)), zj, H', ⟨by have := HK1.out; have := HK2.out; first | omega | exact Nat.le_refl _⟩, ⟨by (with_reducible repeat (first | apply rA | apply rN | apply rD)); exact HO_3.out⟩, ⟨by (with_reducible repeat (first | refine kN ?_ _ | refine kD ?_ | refine kA ?_ _)); exact BK164.out⟩, ⟨by (with_reducible repeat (first | refine kN ?_ _ | refine kD ?_ | refine kA ?_ _)); exact BK169.out⟩, ⟨by repeat (first | (with_reducible first | exact HB.out | apply bA | apply bN | apply bD | refine bS ?_ GE164.out | refine bS ?_ GE169.out) | exact HB.out)⟩⟩
        case n24 =>
         have H' := aS H
         clear H
         obtain ⟨Ao29, co29, eo29⟩ := Kd.R_slice HO_3.out
         subst eo29
         have hnb30 := NB164_169.out
         have hnc30 := NB169_164.out
         obtain ⟨hczL_0, hczL_1, hfzL_0, hfzL_1⟩ := bk2 BK164.out
         obtain ⟨ad171, A171_2, c171_2, A171_5, c171_5, e171, hx171_0, hx171_1, hx171_2, hx171_3, hx171_4, hx171_5, HC171_2, HR171_2, HC171_5, HR171_5, p171, q171⟩ := q0m HB.out HR0_0.out (rd ((q00 l0_0 x17_1).f5) x25_2) za za
         obtain rfl : ad168 = ad171 := (by injection e171)
         go_wp2
         go_meet
         case rel => exact ⟨_, _, zj, H', ⟨by have := HK1.out; have := HK2.out; first | omega | exact Nat.le_refl _⟩, ⟨by (with_reducible repeat (first | apply rA | apply rN | apply rD)); exact HO_3.out⟩, ⟨by (with_reducible repeat (first | refine kN ?_ _ | refine kD ?_ | refine kA ?_ _)); exact BK164.out⟩, ⟨by (with_reducible repeat (first | refine kN ?_ _ | refine kD ?_ | refine kA ?_ _)); exact BK169.out⟩, ⟨by repeat (first | (with_reducible first | exact HB.out | apply bA | apply bN | apply bD | refine bS ?_ GE164.out | refine bS ?_ GE169.out) | exact HB.out)⟩⟩
       case rest =>
        clear HC18
        obtain ⟨kq, x29_17, rfl, HA, HJ17, HO_3, BK164, BK169, HB⟩ := hcut
        cases kq with
        | zero => exact absurd HA.out (by simp [dom_kids.j2])
        | succ kj17 =>
         have H := HA.out
         clear HA
         simp only [dom_kids.j2] at H
         refine iV H ?p32 ?n32 <;> clear H
         case' p32 => intro c32 H; subst c32
         case' n32 => intro c32 H; subst c32; refine iE H ?p33 ?n33 <;> clear H
         case' p33 => intro c33b0 c33b1 H; refine iLp H ?_; clear H; intro c34b0 H; refine iTp H ?_; clear H; intro c35b0 H; refine iE H ?p36 ?n36 <;> clear H
         case' p36 => intro c36b0 c36b1 H
         case' n36 => intro c36 c36b0 c36b1 H; refine iTp H ?_; clear H; intro c39b0 H
         case' n33 => intro c33 c33b0 c33b1 H; refine iLp H ?_; clear H; intro c45b0 H; refine iTp H ?_; clear H; intro c46b0 H
         case p32 =>
          obtain rfl := Option.some.inj H
          go_wp2
          go_ret
          exact ⟨by first | rfl | (simp [q04, q03] <;> rfl) | (simp [*, q04, q03] <;> rfl), by repeat (first | (with_reducible first | exact HB.out | apply bA | apply bN | apply bD | refine bS ?_ GE164.out | refine bS ?_ GE169.out) | exact HB.out)⟩
         case p36 =>
          obtain rfl := Option.some.inj H
          have hnb37 := NB164_169.out
          have hnc37 := NB169_164.out
          obtain ⟨hczL_0, hczL_1, hfzL_0, hfzL_1⟩ := bk2 BK164.out
          obtain ⟨ad173, A173_2, c173_2, A173_5, c173_5, e173, hx173_0, hx173_1, hx173_2, hx173_3, hx173_4, hx173_5, HC173_2, HR173_2, HC173_5, HR173_5, p173, q173⟩ := q0m HB.out HR0_0.out (rd ((q00 l0_0 x17_1).f5) x25_2) za za
          obtain rfl : ad168 = ad173 := (by injection e173)
          go_wp2
          go_ret
          exact ⟨by first | rfl | (simp [q04, q03] <;> rfl) | (simp [*, q04, q03] <;> rfl), by repeat (first | (with_reducible first | exact HB.out | apply bA | apply bN | apply bD | refine bS ?_ GE164.out | refine bS ?_ GE169.out) | exact HB.out)⟩
         case n36 =>
          obtain ⟨y174, hy174⟩ : ∃ y_ : List Bool, y_ = (x3_2.set ((rd ((q00 l0_0 x17_1).f5) x25_2) : Int).toNat true) := ⟨_, rfl⟩
          replace H : (dom_kids.l1 kj17 y174 x17_1 l0_0 (l0_0.length : Int) x17_1 ((q00 l0_0 x17_1).f5) (((q00 l0_0 x17_1).f5).length : Int) (wrap64 (x25_2 + 1)) l0_0 a0_1) = some r := by first | (rw [hy174]; with_reducible exact H) | (have H2_ := (Option.bind_some _ _).symm.trans H; rw [hy174]; with_reducible exact H2_) | (have H2_ := (Option.bind_some _ _).symm.trans H; with_reducible exact H2_) | with_reducible exact H | (rw [hy174]; exact H) | exact H
          have Ny174 := aS hy174
          clear hy174
          have H' := aS H
          clear H
          have hnb41 := NB164_169.out
          have hnc41 := NB169_164.out
          obtain ⟨hczL_0, hczL_1, hfzL_0, hfzL_1⟩ := bk2 BK164.out
          obtain ⟨ad173, A173_2, c173_2, A173_5, c173_5, e173, hx173_0, hx173_1, hx173_2, hx173_3, hx173_4, hx173_5, HC173_2, HR173_2, HC173_5, HR173_5, p173, q173⟩ := q0m HB.out HR0_0.out (rd ((q00 l0_0 x17_1).f5) x25_2) za za
          obtain rfl : ad168 = ad173 := (by injection e173)
          have p40 : 0 ≤ ((rd ((q00 l0_0 x17_1).f5) x25_2) : Int) := od za
          have q40 : ((rd ((q00 l0_0 x17_1).f5) x25_2) : Int) < ((x3_2.length : Int) : Int) := od za
          obtain ⟨go40, co40, eo40, gb40, gl40, cl40, HG40⟩ := Kd.R_form HO_3.out (by omega)
          (first | cases eo40 | (injection eo40 with ea_ en_ ec_; (first | subst ea_ | (injection ea_ with ea_; subst ea_)); subst ec_; clear en_))
          have GB40 := aS gb40
          have GG40 := aS HG40
          clear gb40 gl40 HG40
          obtain ⟨hx40_0, hf40_0⟩ := Kd.R_celln false HO_3.out ((rd ((q00 l0_0 x17_1).f5) x25_2) : Int) p40 q40
          replace p40 := eq_true p40
          replace q40 := eq_true q40
          have HP43 := Kd.R_putg HO_3.out ((rd ((q00 l0_0 x17_1).f5) x25_2) : Int) true
          go_wp2_with (first | ((with_reducible refine gate_store (t := 4) (p := 68) rfl ?_); refine store_event (t := 4) (p := 68) (v := ?vo_w44) (w1 := (wc.setCell ⟨go40, ((rd ((q00 l0_0 x17_1).f5) x25_2) : Int).toNat, none⟩ (.bool true))) ?hg ?ho ?hn ?hr ?_; (case ho => rfl); (case hg => rfl); (case hn => rfl); (case hr => first | (go_simp; done) | (go_simp; rfl)); intro w44 hw; have hg : wc.grownBy w44 (some go40) := (by rw [hw]; exact HP43.2); have hp_ : Kd.R Kd.bool 4 w44 w.heap.size (fun _ => True) (.slice (some ⟨go40, 0, none⟩) x3_2.length co40) y174 := (by rw [hw, Ny174.out]; exact HP43.1); clear HP43; have n0_ := aS (hp_); have n1_ := aS (blk_grown (g := gb164) (o := .cells #[.slice (some ad168) l0_0.length c0_0, .bool a0_1] 24 (0, 0)) (z8 BK164.out) hg (Kd.R_ne HO_3.out BK164.out (by decide))); have n2_ := aS (blk_grown (g := gb169) (o := .cells #[.int .i64 ((q00 l0_0 x17_1).f0), .string ((q00 l0_0 x17_1).f1), .slice A168_2 ((q00 l0_0 x17_1).f2).length c168_2, .string ((q00 l0_0 x17_1).f3), .int .i64 ((q00 l0_0 x17_1).f4), .slice (some ad170) ((q00 l0_0 x17_1).f5).length c168_5] 43 (0, 0)) (z8 BK169.out) hg (Kd.R_ne HO_3.out BK169.out (by decide))); have n3_ := aS ((by rw [hw]; exact below_set (HB.out) GB40.out : Below w.heap.size w w44)); clear HO_3; clear BK164; clear BK169; clear HB; have HO_3 := n0_; have BK164 := n1_; have BK169 := n2_; have HB := n3_; clear n0_ n1_ n2_ n3_; clear hg hw hp_))
          go_roundg kj17
          case measure => have := HK1.out; have := HK2.out; have := HJ17.out; omega
          case rel => exact ⟨(y174), (wrap64 (x25_2 + 1)), zj, H', ⟨by have := HK1.out; have := HK2.out; have := HJ17.out; omega⟩, ⟨by (with_reducible repeat (first | apply rA | apply rN | apply rD)); exact HO_3.out⟩, ⟨by (with_reducible repeat (first | refine kN ?_ _ | refine kD ?_ | refine kA ?_ _)); exact BK164.out⟩, ⟨by (with_reducible repeat (first | refine kN ?_ _ | refine kD ?_ | refine kA ?_ _)); exact BK169.out⟩, ⟨by repeat (first | (with_reducible first | exact HB.out | apply bA | apply bN | apply bD | refine bS ?_ GE164.out | refine bS ?_ GE169.out) | exact HB.out)⟩⟩
         case n33 =>
          obtain ⟨y175, hy175⟩ : ∃ y_ : List Bool, y_ = (x3_2.set ((rd ((q00 l0_0 x17_1).f5) x25_2) : Int).toNat true) := ⟨_, rfl⟩
          replace H : (dom_kids.l1 kj17 y175 x17_1 l0_0 (l0_0.length : Int) x17_1 ((q00 l0_0 x17_1).f5) (((q00 l0_0 x17_1).f5).length : Int) (wrap64 (x25_2 + 1)) l0_0 a0_1) = some r := by first | (rw [hy175]; with_reducible exact H) | (have H2_ := (Option.bind_some _ _).symm.trans H; rw [hy175]; with_reducible exact H2_) | (have H2_ := (Option.bind_some _ _).symm.trans H; with_reducible exact H2_) | with_reducible exact H | (rw [hy175]; exact H) | exact H
          have Ny175 := aS hy175
          clear hy175
          have H' := aS H
          clear H
          have p47 : 0 ≤ ((rd ((q00 l0_0 x17_1).f5) x25_2) : Int) := od za
          have q47 : ((rd ((q00 l0_0 x17_1).f5) x25_2) : Int) < ((x3_2.length : Int) : Int) := od za
          obtain ⟨go47, co47, eo47, gb47, gl47, cl47, HG47⟩ := Kd.R_form HO_3.out (by omega)
          (first | cases eo47 | (injection eo47 with ea_ en_ ec_; (first | subst ea_ | (injection ea_ with ea_; subst ea_)); subst ec_; clear en_))
          have GB47 := aS gb47
          have GG47 := aS HG47
          clear gb47 gl47 HG47
          obtain ⟨hx47_0, hf47_0⟩ := Kd.R_celln false HO_3.out ((rd ((q00 l0_0 x17_1).f5) x25_2) : Int) p47 q47
          replace p47 := eq_true p47
          replace q47 := eq_true q47
          have HP48 := Kd.R_putg HO_3.out ((rd ((q00 l0_0 x17_1).f5) x25_2) : Int) true
          go_wp2_with (first | ((with_reducible refine gate_store (t := 4) (p := 68) rfl ?_); refine store_event (t := 4) (p := 68) (v := ?vo_w49) (w1 := (wc.setCell ⟨go47, ((rd ((q00 l0_0 x17_1).f5) x25_2) : Int).toNat, none⟩ (.bool true))) ?hg ?ho ?hn ?hr ?_; (case ho => rfl); (case hg => rfl); (case hn => rfl); (case hr => first | (go_simp; done) | (go_simp; rfl)); intro w49 hw; have hg : wc.grownBy w49 (some go47) := (by rw [hw]; exact HP48.2); have hp_ : Kd.R Kd.bool 4 w49 w.heap.size (fun _ => True) (.slice (some ⟨go47, 0, none⟩) x3_2.length co47) y175 := (by rw [hw, Ny175.out]; exact HP48.1); clear HP48; have n0_ := aS (hp_); have n1_ := aS (blk_grown (g := gb164) (o := .cells #[.slice (some ad168) l0_0.length c0_0, .bool a0_1] 24 (0, 0)) (z8 BK164.out) hg (Kd.R_ne HO_3.out BK164.out (by decide))); have n2_ := aS (blk_grown (g := gb169) (o := .cells #[.int .i64 ((q00 l0_0 x17_1).f0), .string ((q00 l0_0 x17_1).f1), .slice A168_2 ((q00 l0_0 x17_1).f2).length c168_2, .string ((q00 l0_0 x17_1).f3), .int .i64 ((q00 l0_0 x17_1).f4), .slice (some ad170) ((q00 l0_0 x17_1).f5).length c168_5] 43 (0, 0)) (z8 BK169.out) hg (Kd.R_ne HO_3.out BK169.out (by decide))); have n3_ := aS ((by rw [hw]; exact below_set (HB.out) GB47.out : Below w.heap.size w w49)); clear HO_3; clear BK164; clear BK169; clear HB; have HO_3 := n0_; have BK164 := n1_; have BK169 := n2_; have HB := n3_; clear n0_ n1_ n2_ n3_; clear hg hw hp_))
          go_roundg kj17
          case measure => have := HK1.out; have := HK2.out; have := HJ17.out; omega
          case rel => exact ⟨(y175), (wrap64 (x25_2 + 1)), zj, H', ⟨by have := HK1.out; have := HK2.out; have := HJ17.out; omega⟩, ⟨by (with_reducible repeat (first | apply rA | apply rN | apply rD)); exact HO_3.out⟩, ⟨by (with_reducible repeat (first | refine kN ?_ _ | refine kD ?_ | refine kA ?_ _)); exact BK164.out⟩, ⟨by (with_reducible repeat (first | refine kN ?_ _ | refine kD ?_ | refine kA ?_ _)); exact BK169.out⟩, ⟨by repeat (first | (with_reducible first | exact HB.out | apply bA | apply bN | apply bD | refine bS ?_ GE164.out | refine bS ?_ GE169.out) | exact HB.out)⟩⟩
      case n15 =>
       have H' := aS H
       clear H
       go_wp2
       go_roundg k2
       case measure => have := HK1.out; have := HK2.out; omega
       case rel => exact ⟨(x3_2), (wrap64 (x17_1 + 1)), zj, H', ⟨by have := HK1.out; have := HK2.out; omega⟩, ⟨by (with_reducible repeat (first | apply rA | apply rN | apply rD)); exact HO_3.out⟩, ⟨by (with_reducible repeat (first | refine kN ?_ _ | refine kD ?_ | refine kA ?_ _)); exact BK164.out⟩, ⟨by repeat (first | (with_reducible first | exact HB.out | apply bA | apply bN | apply bD | refine bS ?_ GE164.out | refine bS ?_ GE169.out) | exact HB.out)⟩⟩
   case n9 =>
    have H' := aS H
    clear H
    obtain ⟨hczL_0, hczL_1, hfzL_0, hfzL_1⟩ := bk2 BK164.out
    go_wp2
    go_loopg [74] k1 (fun kq v74 w' => ∃ (x74_2 : Int), v74 = .int .i64 x74_2 ∧ Aside0 (dom_kids.l2 kq x3_1 l0_0 (l0_0.length : Int) x74_2 l0_0 a0_1 = some r) ∧ Aside0 (kq ≤ k1) ∧ Aside0 (Kd.R Kd.bool 4 w' w.heap.size (fun _ => True) v166 x3_1) ∧ Aside0 (w'.heap[gb164]? = some (.cells #[(.slice A0_0 l0_0.length c0_0), .bool a0_1] 24 (0, 0))) ∧ Aside0 (Below w.heap.size w w'))
    case atStart => exact ⟨(0), zj, H', ⟨Nat.le_refl _⟩, ⟨by (with_reducible repeat (first | apply rA | apply rN | apply rD)); exact HO_3.out⟩, ⟨by (with_reducible repeat (first | refine kN ?_ _ | refine kD ?_ | refine kA ?_ _)); exact BK164.out⟩, ⟨by repeat (first | (with_reducible first | exact HB.out | apply bA | apply bN | apply bD | refine bS ?_ GE164.out) | exact HB.out)⟩⟩
    case round =>
     clear H'
     obtain ⟨x74_2, rfl, HA, HK2, HO_3, BK164, HB⟩ := hrel
     cases gk with
     | zero => exact absurd HA.out (by simp [dom_kids.l2])
     | succ k2 =>
      have H := HA.out
      clear HA
      simp only [dom_kids.l2] at H
      refine iT H ?p51 ?n51 <;> clear H
      case' p51 => intro c51b0 H; refine iLp H ?_; clear H; intro c52b0 H; refine iTp H ?_; clear H; intro c53b0 H; refine iE H ?p54 ?n54 <;> clear H
      case' p54 => intro c54b0 c54b1 H
      case' n54 =>
       intro c54 c54b0 c54b1 H
       refine iTp H ?_; clear H; intro c58b0 H
       obtain ⟨bq59, hbq59⟩ : ∃ b_ : Bool, b_ = (rdOf false x3_1 x74_2) := ⟨_, rfl⟩
       replace H : (if bq59 = true then (dom_kids.l2 k2 x3_1 l0_0 (l0_0.length : Int) (wrap64 (x74_2 + 1)) l0_0 a0_1) else (some 3)) = some r := by rw [← hbq59] at H; exact H
       have Nbq59 := aS hbq59
       clear hbq59
       obtain ⟨ad176, A176_2, c176_2, A176_5, c176_5, e176, hx176_0, hx176_1, hx176_2, hx176_3, hx176_4, hx176_5, HC176_2, HR176_2, HC176_5, HR176_5, p176, q176⟩ := q0m HB.out HR0_0.out x74_2 za za
       cases e176
       refine iV H ?p60 ?n60 <;> clear H
      case' p60 => intro c60 H; subst c60
      case' n60 => intro c60 H; subst c60
      case' n51 =>
       intro c51b0 H
       obtain ⟨hczL_0, hczL_1, hfzL_0, hfzL_1⟩ := bk2 BK164.out
       refine iTNp (m := 0) (n := l0_0.length) H rfl rfl ?_; clear H; intro c69b0 c69b1 H
       have p179 : 0 ≤ (0 : Int) := (by omega)
       have q179 : 0 < (l0_0.length : Int) := od za
       obtain ⟨ad179, A179_2, c179_2, A179_5, c179_5, e179, hx179_0, hx179_1, hx179_2, hx179_3, hx179_4, hx179_5, hl179_2, hi179_2, hl179_5, hi179_5⟩ := at_T43 HR0_0.out 0 p179 q179
       cases e179
       refine iE H ?p70 ?n70 <;> clear H
      case' p70 => intro c70b0 c70b1 H
      case' n70 => intro c70 c70b0 c70b1 H
      case p54 =>
       have H' := aS H
       clear H
       obtain ⟨ad176, A176_2, c176_2, A176_5, c176_5, e176, hx176_0, hx176_1, hx176_2, hx176_3, hx176_4, hx176_5, HC176_2, HR176_2, HC176_5, HR176_5, p176, q176⟩ := q0m HB.out HR0_0.out x74_2 za za
       cases e176
       go_wp2_with (first | ((with_reducible refine q0g (N := 9) rfl ?_); (try (refine q0v (by rfl) ?_; dsimp only)); refine q0n ?hg (N := 9) ?hd (cs := #[.int .i64 0, .string (⟨#[]⟩ : ByteArray), .slice none 0 0, .string (⟨#[]⟩ : ByteArray), .int .i64 0, .slice none 0 0]) (t := 43) ?hr ?_; (case hd => rfl); (case hg => rfl); (case hr => first | (go_simp; done) | (go_simp; rfl)); intro gb177 hg w55 hbox hb; have n0_ := aS (Kd.R_below (zg HO_3.out) hb); have n1_ := aS (q07 (g := gb164) (o := .cells #[.slice (some ad176) l0_0.length c0_0, .bool a0_1] 24 (0, 0)) (z8 BK164.out) hb); have n2_ := aS (q01 (z1 HB.out GE164.out) hb); have n3_ := aS (hbox); have n4_ := aS ((by rw [hg]; exact (q0h (z1 HB.out GE164.out)) : w.heap.size ≤ gb177)); have n5_ := aS ((by rw [hg]; exact (q0h (z1 HB.out GE164.out)) : w.heap.size ≤ gb177)); have n6_ := aS ((by rw [hg]; exact Nat.ne_of_lt (q13 (g := gb164) (o := .cells #[.slice (some ad176) l0_0.length c0_0, .bool a0_1] 24 (0, 0)) (z8 BK164.out)) : gb164 ≠ gb177)); have n7_ := aS ((by rw [hg]; exact Nat.ne_of_gt (q13 (g := gb164) (o := .cells #[.slice (some ad176) l0_0.length c0_0, .bool a0_1] 24 (0, 0)) (z8 BK164.out)) : gb177 ≠ gb164)); clear HO_3; clear BK164; clear HB; have HO_3 := n0_; have BK164 := n1_; have HB := n2_; have BK177 := n3_; have GW177 := n4_; have GE177 := n5_; have NB164_177 := n6_; have NB177_164 := n7_; clear n0_ n1_ n2_ n3_ n4_ n5_ n6_ n7_; clear hb hbox hg; have hnb56 := NB177_164.out; have hnc56 := NB164_177.out; obtain ⟨hczL_0, hczL_1, hczL_2, hczL_3, hczL_4, hczL_5, hfzL_0, hfzL_1, hfzL_2, hfzL_3, hfzL_4, hfzL_5⟩ := bk6 BK177.out))
       go_roundg k2
       case measure => have := HK1.out; have := HK2.out; omega
       case rel => exact ⟨(wrap64 (x74_2 + 1)), zj, H', ⟨by have := HK1.out; have := HK2.out; omega⟩, ⟨by (with_reducible repeat (first | apply rA | apply rN | apply rD)); exact Kd.R_mono (Kd.R_far (p := ⟨gb177, 5, none⟩) (Kd.R_far (p := ⟨gb177, 4, none⟩) (Kd.R_far (p := ⟨gb177, 3, none⟩) (Kd.R_far (p := ⟨gb177, 2, none⟩) (Kd.R_far (p := ⟨gb177, 1, none⟩) (Kd.R_far (p := ⟨gb177, 0, none⟩) (Kd.R_types HO_3.out BK177.out (by decide)) (fun _ hk => hk.2) (.int .i64 ((q00 l0_0 x74_2).f0))) (fun _ hk => hk.2) (.string ((q00 l0_0 x74_2).f1))) (fun _ hk => hk.2) (.slice A176_2 ((q00 l0_0 x74_2).f2).length c176_2)) (fun _ hk => hk.2) (.string ((q00 l0_0 x74_2).f3))) (fun _ hk => hk.2) (.int .i64 ((q00 l0_0 x74_2).f4))) (fun _ hk => hk.2) (.slice A176_5 ((q00 l0_0 x74_2).f5).length c176_5)) (fun _ hk => trivial)⟩, ⟨by (with_reducible repeat (first | refine kN ?_ _ | refine kD ?_ | refine kA ?_ _)); refine q0o ?_ NB164_177.out _; (with_reducible repeat (first | refine kN ?_ _ | refine kD ?_ | refine kA ?_ _)); refine q0o ?_ NB164_177.out _; (with_reducible repeat (first | refine kN ?_ _ | refine kD ?_ | refine kA ?_ _)); refine q0o ?_ NB164_177.out _; (with_reducible repeat (first | refine kN ?_ _ | refine kD ?_ | refine kA ?_ _)); refine q0o ?_ NB164_177.out _; (with_reducible repeat (first | refine kN ?_ _ | refine kD ?_ | refine kA ?_ _)); refine q0o ?_ NB164_177.out _; (with_reducible repeat (first | refine kN ?_ _ | refine kD ?_ | refine kA ?_ _)); refine q0o ?_ NB164_177.out _; (with_reducible repeat (first | refine kN ?_ _ | refine kD ?_ | refine kA ?_ _)); exact BK164.out⟩, ⟨by repeat (first | (with_reducible first | exact HB.out | apply bA | apply bN | apply bD | refine bS ?_ GE164.out | refine bS ?_ GE177.out) | exact HB.out)⟩⟩
      case p60 =>
       have H' := aS H
       clear H
       go_wp2_with (first | ((with_reducible refine q0g (N := 9) rfl ?_); (try (refine q0v (by rfl) ?_; dsimp only)); refine q0n ?hg (N := 9) ?hd (cs := #[.int .i64 0, .string (⟨#[]⟩ : ByteArray), .slice none 0 0, .string (⟨#[]⟩ : ByteArray), .int .i64 0, .slice none 0 0]) (t := 43) ?hr ?_; (case hd => rfl); (case hg => rfl); (case hr => first | (go_simp; done) | (go_simp; rfl)); intro gb177 hg w61 hbox hb; have n0_ := aS (Kd.R_below (zg HO_3.out) hb); have n1_ := aS (q07 (g := gb164) (o := .cells #[.slice (some ad176) l0_0.length c0_0, .bool a0_1] 24 (0, 0)) (z8 BK164.out) hb); have n2_ := aS (q01 (z1 HB.out GE164.out) hb); have n3_ := aS (hbox); have n4_ := aS ((by rw [hg]; exact (q0h (z1 HB.out GE164.out)) : w.heap.size ≤ gb177)); have n5_ := aS ((by rw [hg]; exact (q0h (z1 HB.out GE164.out)) : w.heap.size ≤ gb177)); have n6_ := aS ((by rw [hg]; exact Nat.ne_of_lt (q13 (g := gb164) (o := .cells #[.slice (some ad176) l0_0.length c0_0, .bool a0_1] 24 (0, 0)) (z8 BK164.out)) : gb164 ≠ gb177)); have n7_ := aS ((by rw [hg]; exact Nat.ne_of_gt (q13 (g := gb164) (o := .cells #[.slice (some ad176) l0_0.length c0_0, .bool a0_1] 24 (0, 0)) (z8 BK164.out)) : gb177 ≠ gb164)); clear HO_3; clear BK164; clear HB; have HO_3 := n0_; have BK164 := n1_; have HB := n2_; have BK177 := n3_; have GW177 := n4_; have GE177 := n5_; have NB164_177 := n6_; have NB177_164 := n7_; clear n0_ n1_ n2_ n3_ n4_ n5_ n6_ n7_; clear hb hbox hg; have hnb62 := NB177_164.out; have hnc62 := NB164_177.out; obtain ⟨hczL_0, hczL_1, hczL_2, hczL_3, hczL_4, hczL_5, hfzL_0, hfzL_1, hfzL_2, hfzL_3, hfzL_4, hfzL_5⟩ := bk6 BK177.out; obtain ⟨Ao64, co64, eo64⟩ := Kd.R_slice HO_3.out; subst eo64; have p178 : 0 ≤ (x74_2 : Int) := od za; have q178 : x74_2 < (x3_1.length : Int) := od za; obtain ⟨ad178, e178, hx178_0⟩ := Kd.at_bool (Kd.R_reads' HO_3.out).2.2 x74_2 p178 q178; (try rw [← Nbq59.out] at hx178_0); cases e178; have hn178_0 : ad178.block ≠ gb177 := Kd.own_blk (Kd.R_ne HO_3.out BK177.out (by decide)); have hn178_1 : ad178.block ≠ gb177 := Kd.own_blk (Kd.R_ne HO_3.out BK177.out (by decide)); have hn178_2 : ad178.block ≠ gb177 := Kd.own_blk (Kd.R_ne HO_3.out BK177.out (by decide)); have hn178_3 : ad178.block ≠ gb177 := Kd.own_blk (Kd.R_ne HO_3.out BK177.out (by decide)); have hn178_4 : ad178.block ≠ gb177 := Kd.own_blk (Kd.R_ne HO_3.out BK177.out (by decide)); have hn178_5 : ad178.block ≠ gb177 := Kd.own_blk (Kd.R_ne HO_3.out BK177.out (by decide)); replace hx178_0 := (q1b (p := ⟨gb177, 0, none⟩) (by first | (rw [q0k]; exact hn178_0) | (show (Addr.add _ _).block ≠ _; rw [q0k]; exact hn178_0) | exact hn178_0) (.int .i64 ((q00 l0_0 x74_2).f0))).trans hx178_0; replace hx178_0 := (q1b (p := ⟨gb177, 1, none⟩) (by first | (rw [q0k]; exact hn178_1) | (show (Addr.add _ _).block ≠ _; rw [q0k]; exact hn178_1) | exact hn178_1) (.string ((q00 l0_0 x74_2).f1))).trans hx178_0; replace hx178_0 := (q1b (p := ⟨gb177, 2, none⟩) (by first | (rw [q0k]; exact hn178_2) | (show (Addr.add _ _).block ≠ _; rw [q0k]; exact hn178_2) | exact hn178_2) (.slice A176_2 ((q00 l0_0 x74_2).f2).length c176_2)).trans hx178_0; replace hx178_0 := (q1b (p := ⟨gb177, 3, none⟩) (by first | (rw [q0k]; exact hn178_3) | (show (Addr.add _ _).block ≠ _; rw [q0k]; exact hn178_3) | exact hn178_3) (.string ((q00 l0_0 x74_2).f3))).trans hx178_0; replace hx178_0 := (q1b (p := ⟨gb177, 4, none⟩) (by first | (rw [q0k]; exact hn178_4) | (show (Addr.add _ _).block ≠ _; rw [q0k]; exact hn178_4) | exact hn178_4) (.int .i64 ((q00 l0_0 x74_2).f4))).trans hx178_0; replace hx178_0 := (q1b (p := ⟨gb177, 5, none⟩) (by first | (rw [q0k]; exact hn178_5) | (show (Addr.add _ _).block ≠ _; rw [q0k]; exact hn178_5) | exact hn178_5) (.slice A176_5 ((q00 l0_0 x74_2).f5).length c176_5)).trans hx178_0; clear hn178_0; clear hn178_1; clear hn178_2; clear hn178_3; clear hn178_4; clear hn178_5; replace p178 := eq_true p178; replace q178 := eq_true q178))
       go_roundg k2
       case measure => have := HK1.out; have := HK2.out; omega
       case rel => exact ⟨(wrap64 (x74_2 + 1)), zj, H', ⟨by have := HK1.out; have := HK2.out; omega⟩, ⟨by (with_reducible repeat (first | apply rA | apply rN | apply rD)); exact Kd.R_mono (Kd.R_far (p := ⟨gb177, 5, none⟩) (Kd.R_far (p := ⟨gb177, 4, none⟩) (Kd.R_far (p := ⟨gb177, 3, none⟩) (Kd.R_far (p := ⟨gb177, 2, none⟩) (Kd.R_far (p := ⟨gb177, 1, none⟩) (Kd.R_far (p := ⟨gb177, 0, none⟩) (Kd.R_types HO_3.out BK177.out (by decide)) (fun _ hk => hk.2) (.int .i64 ((q00 l0_0 x74_2).f0))) (fun _ hk => hk.2) (.string ((q00 l0_0 x74_2).f1))) (fun _ hk => hk.2) (.slice A176_2 ((q00 l0_0 x74_2).f2).length c176_2)) (fun _ hk => hk.2) (.string ((q00 l0_0 x74_2).f3))) (fun _ hk => hk.2) (.int .i64 ((q00 l0_0 x74_2).f4))) (fun _ hk => hk.2) (.slice A176_5 ((q00 l0_0 x74_2).f5).length c176_5)) (fun _ hk => trivial)⟩, ⟨by (with_reducible repeat (first | refine kN ?_ _ | refine kD ?_ | refine kA ?_ _)); refine q0o ?_ NB164_177.out _; (with_reducible repeat (first | refine kN ?_ _ | refine kD ?_ | refine kA ?_ _)); refine q0o ?_ NB164_177.out _; (with_reducible repeat (first | refine kN ?_ _ | refine kD ?_ | refine kA ?_ _)); refine q0o ?_ NB164_177.out _; (with_reducible repeat (first | refine kN ?_ _ | refine kD ?_ | refine kA ?_ _)); refine q0o ?_ NB164_177.out _; (with_reducible repeat (first | refine kN ?_ _ | refine kD ?_ | refine kA ?_ _)); refine q0o ?_ NB164_177.out _; (with_reducible repeat (first | refine kN ?_ _ | refine kD ?_ | refine kA ?_ _)); refine q0o ?_ NB164_177.out _; (with_reducible repeat (first | refine kN ?_ _ | refine kD ?_ | refine kA ?_ _)); exact BK164.out⟩, ⟨by repeat (first | (with_reducible first | exact HB.out | apply bA | apply bN | apply bD | refine bS ?_ GE164.out | refine bS ?_ GE177.out) | exact HB.out)⟩⟩
      case n60 =>
       obtain rfl := Option.some.inj H
       go_wp2_with (first | ((with_reducible refine q0g (N := 9) rfl ?_); (try (refine q0v (by rfl) ?_; dsimp only)); refine q0n ?hg (N := 9) ?hd (cs := #[.int .i64 0, .string (⟨#[]⟩ : ByteArray), .slice none 0 0, .string (⟨#[]⟩ : ByteArray), .int .i64 0, .slice none 0 0]) (t := 43) ?hr ?_; (case hd => rfl); (case hg => rfl); (case hr => first | (go_simp; done) | (go_simp; rfl)); intro gb177 hg w65 hbox hb; have n0_ := aS (Kd.R_below (zg HO_3.out) hb); have n1_ := aS (q07 (g := gb164) (o := .cells #[.slice (some ad176) l0_0.length c0_0, .bool a0_1] 24 (0, 0)) (z8 BK164.out) hb); have n2_ := aS (q01 (z1 HB.out GE164.out) hb); have n3_ := aS (hbox); have n4_ := aS ((by rw [hg]; exact (q0h (z1 HB.out GE164.out)) : w.heap.size ≤ gb177)); have n5_ := aS ((by rw [hg]; exact (q0h (z1 HB.out GE164.out)) : w.heap.size ≤ gb177)); have n6_ := aS ((by rw [hg]; exact Nat.ne_of_lt (q13 (g := gb164) (o := .cells #[.slice (some ad176) l0_0.length c0_0, .bool a0_1] 24 (0, 0)) (z8 BK164.out)) : gb164 ≠ gb177)); have n7_ := aS ((by rw [hg]; exact Nat.ne_of_gt (q13 (g := gb164) (o := .cells #[.slice (some ad176) l0_0.length c0_0, .bool a0_1] 24 (0, 0)) (z8 BK164.out)) : gb177 ≠ gb164)); clear HO_3; clear BK164; clear HB; have HO_3 := n0_; have BK164 := n1_; have HB := n2_; have BK177 := n3_; have GW177 := n4_; have GE177 := n5_; have NB164_177 := n6_; have NB177_164 := n7_; clear n0_ n1_ n2_ n3_ n4_ n5_ n6_ n7_; clear hb hbox hg; have hnb66 := NB177_164.out; have hnc66 := NB164_177.out; obtain ⟨hczL_0, hczL_1, hczL_2, hczL_3, hczL_4, hczL_5, hfzL_0, hfzL_1, hfzL_2, hfzL_3, hfzL_4, hfzL_5⟩ := bk6 BK177.out; obtain ⟨Ao68, co68, eo68⟩ := Kd.R_slice HO_3.out; subst eo68; have p178 : 0 ≤ (x74_2 : Int) := od za; have q178 : x74_2 < (x3_1.length : Int) := od za; obtain ⟨ad178, e178, hx178_0⟩ := Kd.at_bool (Kd.R_reads' HO_3.out).2.2 x74_2 p178 q178; (try rw [← Nbq59.out] at hx178_0); cases e178; have hn178_0 : ad178.block ≠ gb177 := Kd.own_blk (Kd.R_ne HO_3.out BK177.out (by decide)); have hn178_1 : ad178.block ≠ gb177 := Kd.own_blk (Kd.R_ne HO_3.out BK177.out (by decide)); have hn178_2 : ad178.block ≠ gb177 := Kd.own_blk (Kd.R_ne HO_3.out BK177.out (by decide)); have hn178_3 : ad178.block ≠ gb177 := Kd.own_blk (Kd.R_ne HO_3.out BK177.out (by decide)); have hn178_4 : ad178.block ≠ gb177 := Kd.own_blk (Kd.R_ne HO_3.out BK177.out (by decide)); have hn178_5 : ad178.block ≠ gb177 := Kd.own_blk (Kd.R_ne HO_3.out BK177.out (by decide)); replace hx178_0 := (q1b (p := ⟨gb177, 0, none⟩) (by first | (rw [q0k]; exact hn178_0) | (show (Addr.add _ _).block ≠ _; rw [q0k]; exact hn178_0) | exact hn178_0) (.int .i64 ((q00 l0_0 x74_2).f0))).trans hx178_0; replace hx178_0 := (q1b (p := ⟨gb177, 1, none⟩) (by first | (rw [q0k]; exact hn178_1) | (show (Addr.add _ _).block ≠ _; rw [q0k]; exact hn178_1) | exact hn178_1) (.string ((q00 l0_0 x74_2).f1))).trans hx178_0; replace hx178_0 := (q1b (p := ⟨gb177, 2, none⟩) (by first | (rw [q0k]; exact hn178_2) | (show (Addr.add _ _).block ≠ _; rw [q0k]; exact hn178_2) | exact hn178_2) (.slice A176_2 ((q00 l0_0 x74_2).f2).length c176_2)).trans hx178_0; replace hx178_0 := (q1b (p := ⟨gb177, 3, none⟩) (by first | (rw [q0k]; exact hn178_3) | (show (Addr.add _ _).block ≠ _; rw [q0k]; exact hn178_3) | exact hn178_3) (.string ((q00 l0_0 x74_2).f3))).trans hx178_0; replace hx178_0 := (q1b (p := ⟨gb177, 4, none⟩) (by first | (rw [q0k]; exact hn178_4) | (show (Addr.add _ _).block ≠ _; rw [q0k]; exact hn178_4) | exact hn178_4) (.int .i64 ((q00 l0_0 x74_2).f4))).trans hx178_0; replace hx178_0 := (q1b (p := ⟨gb177, 5, none⟩) (by first | (rw [q0k]; exact hn178_5) | (show (Addr.add _ _).block ≠ _; rw [q0k]; exact hn178_5) | exact hn178_5) (.slice A176_5 ((q00 l0_0 x74_2).f5).length c176_5)).trans hx178_0; clear hn178_0; clear hn178_1; clear hn178_2; clear hn178_3; clear hn178_4; clear hn178_5; replace p178 := eq_true p178; replace q178 := eq_true q178))
       go_ret
       exact ⟨by first | rfl | (simp [q04, q03] <;> rfl) | (simp [*, q04, q03] <;> rfl), by repeat (first | (with_reducible first | exact HB.out | apply bA | apply bN | apply bD | refine bS ?_ GE164.out | refine bS ?_ GE177.out) | exact HB.out)⟩
      case p70|n70 =>
       obtain rfl := Option.some.inj H
       have qi179 : (0 < l0_0.length) = True := eq_true (by omega)
       (try rw [show ((0 : Int)).toNat = 0 from rfl] at hx179_0)
       (try rw [show 0 * 6 = 0 from rfl] at hx179_0)
       (try rw [Addr.add_zero'] at hx179_0)
       (try rw [show ((0 : Int)).toNat = 0 from rfl] at hx179_1)
       (try rw [show 0 * 6 = 0 from rfl] at hx179_1)
       (try rw [Addr.add_zero'] at hx179_1)
       (try rw [show ((0 : Int)).toNat = 0 from rfl] at hx179_2)
       (try rw [show 0 * 6 = 0 from rfl] at hx179_2)
       (try rw [Addr.add_zero'] at hx179_2)
       (try rw [show ((0 : Int)).toNat = 0 from rfl] at hx179_3)
       (try rw [show 0 * 6 = 0 from rfl] at hx179_3)
       (try rw [Addr.add_zero'] at hx179_3)
       (try rw [show ((0 : Int)).toNat = 0 from rfl] at hx179_4)
       (try rw [show 0 * 6 = 0 from rfl] at hx179_4)
       (try rw [Addr.add_zero'] at hx179_4)
       (try rw [show ((0 : Int)).toNat = 0 from rfl] at hx179_5)
       (try rw [show 0 * 6 = 0 from rfl] at hx179_5)
       (try rw [Addr.add_zero'] at hx179_5)
       replace hx179_0 := q09 HB.out hx179_0
       replace hx179_1 := q09 HB.out hx179_1
       replace hx179_2 := q09 HB.out hx179_2
       replace hx179_3 := q09 HB.out hx179_3
       replace hx179_4 := q09 HB.out hx179_4
       replace hx179_5 := q09 HB.out hx179_5
       have HR179_2 := aS hi179_2
       have HC179_2 := aS hl179_2
       clear hi179_2 hl179_2
       have HR179_5 := aS hi179_5
       have HC179_5 := aS hl179_5
       clear hi179_5 hl179_5
       replace p179 := eq_true p179
       replace q179 := eq_true q179
       go_wp2
       go_ret
       exact ⟨by first | rfl | (simp [q04, q03] <;> rfl) | (simp [*, q04, q03] <;> rfl), by repeat (first | (with_reducible first | exact HB.out | apply bA | apply bN | apply bD | refine bS ?_ GE164.out) | exact HB.out)⟩
def dom_up.l0 : Nat → Int → Int → List (S43) → Bool → Option (Int)
 | 0, _, _, _, _ => none
 | k + 1, x1, x4, x181000, x181001 => if 0 ≤ x1 then (if x1 < (x181000.length : Int) then (if ((q00 x181000 x1).f4) ≥ 0 then (if x4 ≤ (x181000.length : Int) then (dom_up.l0 k ((q00 x181000 x1).f4) (wrap64 (x4 + 1)) x181000 x181001) else (some x4)) else (some x4)) else (none)) else (none)
def dom_up.f (k : Nat) (l0_0 : List (S43)) (a0_1 : Bool) (a1 : Int) : Option (Int) := dom_up.l0 k a1 0 l0_0 a0_1
theorem dom_up.mono_l : ∀ k, (∀ y0 y1 y2 y3, LeO (dom_up.l0 k y0 y1 y2 y3) (dom_up.l0 (k + 1) y0 y1 y2 y3))
 | 0 => fun _ _ _ _ r h => by simp [dom_up.l0] at h
 | k + 1 => by
  have ih0 := dom_up.mono_l k
  ·intro y0 y1 y2 y3
   unfold dom_up.l0
   repeat' first | with_reducible first | apply ih0 | exact LeO.refl _ | exact LeO.none _ | refine LeO.ite ?_ ?_ | refine LeO.bind ?_ (fun _ => ?_) | (first | apply ih0 | exact LeO.none _ | refine LeO.ite ?_ ?_ | refine LeO.bind ?_ (fun _ => ?_))
theorem dom_up.mono : ∀ a0 a1 a2 k, LeO (dom_up.f k a0 a1 a2) (dom_up.f (k + 1) a0 a1 a2) := by
 intro a0 a1 a2 k
 have ih0 := dom_up.mono_l k
 unfold dom_up.f
 repeat' first | with_reducible first | apply ih0 | exact LeO.refl _ | exact LeO.none _ | refine LeO.ite ?_ ?_ | refine LeO.bind ?_ (fun _ => ?_) | (first | apply ih0 | exact LeO.none _ | refine LeO.ite ?_ ?_ | refine LeO.bind ?_ (fun _ => ?_))
set_option maxHeartbeats 8000000 in
set_option maxRecDepth 100000 in
theorem dom_up.calls (k : Nat) (A0_0 : Option Addr) (c0_0 : Nat) (l0_0 : List (S43)) (a0_1 : Bool) (a1 : Int) (r : Int) (w : World) (hr0_0 : Kd.C k43 w A0_0 l0_0.length l0_0) (hc0_0 : l0_0.length ≤ c0_0) (h : dom_up.f k l0_0 a0_1 a1 = some r) :
 Calls Tryd.prog 102 #[.agg #[.slice A0_0 l0_0.length c0_0, .bool a0_1], .int .i64 a1] w fun e w' => e = .returned (.int .i64 r) ∧ Below w.heap.size w w' := by
 have hu24 := Tryd.underlying24
 have HR0_0 := aS hr0_0
 have HC0_0 := aS hc0_0
 clear hr0_0 hc0_0
 have HB := aS (Below.refl w.heap.size w)
 have H := h; clear h; unfold dom_up.f at H
 have H' := aS H
 clear H
 go_enter Tryd.func102, Tryd.ntmps102
 go_wp2_with (first | ((with_reducible refine q0g (N := 2) rfl ?_); (try (refine q0v (by rfl) ?_; dsimp only)); refine box0 rfl (N := 2) rfl (cs := #[.slice A0_0 l0_0.length c0_0, .bool a0_1]) (t := 24) zi (z6 HB.out) ?_; clear HB; intro gb180 w3 BK180 GW180 HB; have GE180 := GW180))
 go_loopg [1, 4] k (fun kq v1 v4 w' => ∃ (x1_1 : Int) (x4_1 : Int), v1 = .int .i64 x1_1 ∧ v4 = .int .i64 x4_1 ∧ Aside0 (dom_up.l0 kq x1_1 x4_1 l0_0 a0_1 = some r) ∧ Aside0 (kq ≤ k) ∧ Aside0 (w'.heap[gb180]? = some (.cells #[(.slice A0_0 l0_0.length c0_0), .bool a0_1] 24 (0, 0))) ∧ Aside0 (Below w.heap.size w w'))
 case atStart => exact ⟨(a1), (0), zj, zj, H', ⟨Nat.le_refl _⟩, ⟨by (with_reducible repeat (first | refine kN ?_ _ | refine kD ?_ | refine kA ?_ _)); exact BK180.out⟩, ⟨by repeat (first | (with_reducible first | exact HB.out | apply bA | apply bN | apply bD | refine bS ?_ GE180.out) | exact HB.out)⟩⟩
 case round =>
  clear H'
  obtain ⟨x1_1, x4_1, rfl, rfl, HA, HK1, BK180, HB⟩ := hrel
  cases gk with
  | zero => exact absurd HA.out (by simp [dom_up.l0])
  | succ k1 =>
   have H := HA.out
   clear HA
   simp only [dom_up.l0] at H
   obtain ⟨hczL_0, hczL_1, hfzL_0, hfzL_1⟩ := bk2 BK180.out
   refine iLp H ?_; clear H; intro c4b0 H
   refine iTp H ?_; clear H; intro c5b0 H
   obtain ⟨ad181, A181_2, c181_2, A181_5, c181_5, e181, hx181_0, hx181_1, hx181_2, hx181_3, hx181_4, hx181_5, HC181_2, HR181_2, HC181_5, HR181_5, p181, q181⟩ := q0m HB.out HR0_0.out x1_1 za za
   cases e181
   refine iL H ?p6 ?n6 <;> clear H
   case' p6 => intro c6b0 H; refine iL H ?p7 ?n7 <;> clear H
   case' p7 => intro c7b0 H
   case' n7 => intro c7b0 H
   case' n6 => intro c6b0 H
   case p7 =>
    have H' := aS H
    clear H
    obtain ⟨ad182, A182_2, c182_2, A182_5, c182_5, e182, hx182_0, hx182_1, hx182_2, hx182_3, hx182_4, hx182_5, HC182_2, HR182_2, HC182_5, HR182_5, p182, q182⟩ := q0m HB.out HR0_0.out x1_1 za za
    obtain rfl : ad181 = ad182 := (by injection e182)
    have ea_ := Option.some.inj (hx181_2.symm.trans hx182_2)
    injection ea_ with ea_ en_ ec_
    subst ea_
    subst ec_
    clear en_
    have ea_ := Option.some.inj (hx181_5.symm.trans hx182_5)
    injection ea_ with ea_ en_ ec_
    subst ea_
    subst ec_
    clear en_
    go_wp2
    go_roundg k1
    case measure => have := HK1.out; omega
    case rel => exact ⟨((q00 l0_0 x1_1).f4), (wrap64 (x4_1 + 1)), zj, zj, H', ⟨by have := HK1.out; omega⟩, ⟨by (with_reducible repeat (first | refine kN ?_ _ | refine kD ?_ | refine kA ?_ _)); exact BK180.out⟩, ⟨by repeat (first | (with_reducible first | exact HB.out | apply bA | apply bN | apply bD | refine bS ?_ GE180.out) | exact HB.out)⟩⟩
   case n7|n6 =>
    obtain rfl := Option.some.inj H
    go_wp2
    go_ret
    exact ⟨by first | rfl | (simp [q04, q03] <;> rfl) | (simp [*, q04, q03] <;> rfl), by repeat (first | (with_reducible first | exact HB.out | apply bA | apply bN | apply bD | refine bS ?_ GE180.out) | exact HB.out)⟩
mutual
def dom_Check.l0 : Nat → List (S43) → Int → Int → List (S43) → Bool → Option (Int)
 | 0, _, _, _, _, _ => none
 | k + 1, x20, x21, x22, x184000, x184001 => if x22 < x21 then (if 0 ≤ x22 then (if x22 < (x20.length : Int) then (if ((((q00 x20 x22).f0) == 1) != (x22 == 0)) = true then (some 3) else ((dom_one.f k ((q00 x20 x22).f0) ((q00 x20 x22).f1) ((q00 x20 x22).f2) ((q00 x20 x22).f3) ((q00 x20 x22).f4) ((q00 x20 x22).f5)).bind fun t186 => (if t186 = 0 then (dom_Check.l0 k x20 x21 (wrap64 (x22 + 1)) x184000 x184001) else (some t186)))) else (none)) else (none)) else ((dom_kids.f k x184000 x184001).bind fun t187 => (if t187 = 0 then (dom_Check.l1 k (x184000.length : Int) 0 x184000 x184001) else (some t187)))
def dom_Check.l1 : Nat → Int → Int → List (S43) → Bool → Option (Int)
 | 0, _, _, _, _ => none
 | k + 1, x46, x47, x184000, x184001 => if x47 < x46 then ((dom_up.f k x184000 x184001 x47).bind fun t188 => (if t188 > (x184000.length : Int) then (some 8) else (if t188 > 40 then (some 2) else (dom_Check.l1 k x46 (wrap64 (x47 + 1)) x184000 x184001)))) else (some 0)
end
def dom_Check.f (k : Nat) (l0_0 : List (S43)) (a0_1 : Bool) : Option (Int) := if (l0_0.length : Int) > 200 then (some 2) else (if (l0_0.length : Int) = 0 then (some 3) else (dom_Check.l0 k l0_0 (l0_0.length : Int) 0 l0_0 a0_1))
theorem dom_Check.mono_l : ∀ k, (∀ y0 y1 y2 y3 y4, LeO (dom_Check.l0 k y0 y1 y2 y3 y4) (dom_Check.l0 (k + 1) y0 y1 y2 y3 y4)) ∧ (∀ y0 y1 y2 y3, LeO (dom_Check.l1 k y0 y1 y2 y3) (dom_Check.l1 (k + 1) y0 y1 y2 y3))
 | 0 => ⟨fun _ _ _ _ _ r h => by simp [dom_Check.l0] at h, fun _ _ _ _ r h => by simp [dom_Check.l1] at h⟩
 | k + 1 => by
  obtain ⟨ih0, ih1⟩ := dom_Check.mono_l k
  refine ⟨?_, ?_⟩
  all_goals intros
  all_goals (first | unfold dom_Check.l0 | unfold dom_Check.l1)
  all_goals (repeat' first | with_reducible first | apply ih0 | apply ih1 | apply dom_kids.mono | apply dom_one.mono | apply dom_up.mono | exact LeO.refl _ | exact LeO.none _ | refine LeO.ite ?_ ?_ | refine LeO.bind ?_ (fun _ => ?_) | (first | apply ih0 | apply ih1 | apply dom_kids.mono | apply dom_one.mono | apply dom_up.mono | exact LeO.none _ | refine LeO.ite ?_ ?_ | refine LeO.bind ?_ (fun _ => ?_)))
theorem dom_Check.mono : ∀ a0 a1 k, LeO (dom_Check.f k a0 a1) (dom_Check.f (k + 1) a0 a1) := by
 intro a0 a1 k
 obtain ⟨ih0, ih1⟩ := dom_Check.mono_l k
 unfold dom_Check.f
 repeat' first | with_reducible first | apply ih0 | apply ih1 | apply dom_kids.mono | apply dom_one.mono | apply dom_up.mono | exact LeO.refl _ | exact LeO.none _ | refine LeO.ite ?_ ?_ | refine LeO.bind ?_ (fun _ => ?_) | (first | apply ih0 | apply ih1 | apply dom_kids.mono | apply dom_one.mono | apply dom_up.mono | exact LeO.none _ | refine LeO.ite ?_ ?_ | refine LeO.bind ?_ (fun _ => ?_))
set_option maxHeartbeats 8000000 in
set_option maxRecDepth 100000 in
theorem dom_Check.calls (k : Nat) (A0_0 : Option Addr) (c0_0 : Nat) (l0_0 : List (S43)) (a0_1 : Bool) (r : Int) (w : World) (hr0_0 : Kd.C k43 w A0_0 l0_0.length l0_0) (hc0_0 : l0_0.length ≤ c0_0) (h : dom_Check.f k l0_0 a0_1 = some r) :
 Calls Tryd.prog 52 #[.agg #[.slice A0_0 l0_0.length c0_0, .bool a0_1]] w fun e w' => e = .returned (.int .i64 r) ∧ Below w.heap.size w w' := by
 have hu24 := Tryd.underlying24
 have hu43 := Tryd.underlying43
 have HR0_0 := aS hr0_0
 have HC0_0 := aS hc0_0
 clear hr0_0 hc0_0
 have HB := aS (Below.refl w.heap.size w)
 have H := h; clear h; unfold dom_Check.f at H
 refine iTN (m := 200) (n := l0_0.length) H rfl rfl ?p2 ?n2 <;> clear H
 case' p2 => intro c2b0 c2b1 H
 case' n2 => intro c2b0 c2b1 H; refine iG H ?p5 ?n5 <;> clear H
 case' p5 => intro c5 H; have c5b0 : ((l0_0.length : Int) == 0) = true := beq_iff_eq.mpr c5; have c5b1 : ((l0_0.length : Int) != 0) = false := bne_eq_false_iff_eq.mpr c5; clear c5
 case' n5 => intro c5 H; have c5b0 : ((l0_0.length : Int) == 0) = false := beq_eq_false_iff_ne.mpr c5; have c5b1 : ((l0_0.length : Int) != 0) = true := bne_iff_ne.mpr c5; have c5b2 : ¬ (l0_0 = []) := fun h_ => c5 (by rw [h_]; rfl)
 case p2 =>
  obtain rfl := Option.some.inj H
  go_enter Tryd.func52, Tryd.ntmps52
  go_wp2_with (first | ((with_reducible refine q0g (N := 1) rfl ?_); refine box0 rfl (N := 1) rfl (cs := #[.slice A0_0 l0_0.length c0_0, .bool a0_1]) (t := 24) zi (z6 HB.out) ?_; clear HB; intro gb183 w3 BK183 GW183 HB; have GE183 := GW183; obtain ⟨hczL_0, hczL_1, hfzL_0, hfzL_1⟩ := bk2 BK183.out))
  go_ret
  exact ⟨by first | rfl | (simp [q04, q03] <;> rfl) | (simp [*, q04, q03] <;> rfl), by repeat (first | (with_reducible first | exact HB.out | apply bA | apply bN | apply bD | refine bS ?_ GE183.out) | exact HB.out)⟩
 case p5 =>
  obtain rfl := Option.some.inj H
  go_enter Tryd.func52, Tryd.ntmps52
  go_wp2_with (first | ((with_reducible refine q0g (N := 1) rfl ?_); refine box0 rfl (N := 1) rfl (cs := #[.slice A0_0 l0_0.length c0_0, .bool a0_1]) (t := 24) zi (z6 HB.out) ?_; clear HB; intro gb183 w6 BK183 GW183 HB; have GE183 := GW183; obtain ⟨hczL_0, hczL_1, hfzL_0, hfzL_1⟩ := bk2 BK183.out))
  go_ret
  exact ⟨by first | rfl | (simp [q04, q03] <;> rfl) | (simp [*, q04, q03] <;> rfl), by repeat (first | (with_reducible first | exact HB.out | apply bA | apply bN | apply bD | refine bS ?_ GE183.out) | exact HB.out)⟩
 case n5 =>
  have H' := aS H
  clear H
  go_enter Tryd.func52, Tryd.ntmps52
  go_wp2_with (first | ((with_reducible refine q0g (N := 1) rfl ?_); refine box0 rfl (N := 1) rfl (cs := #[.slice A0_0 l0_0.length c0_0, .bool a0_1]) (t := 24) zi (z6 HB.out) ?_; clear HB; intro gb183 w8 BK183 GW183 HB; have GE183 := GW183; obtain ⟨hczL_0, hczL_1, hfzL_0, hfzL_1⟩ := bk2 BK183.out))
  go_loopg [22] k (fun kq v22 w' => ∃ (x22_1 : Int), v22 = .int .i64 x22_1 ∧ Aside0 (dom_Check.l0 kq l0_0 (l0_0.length : Int) x22_1 l0_0 a0_1 = some r) ∧ Aside0 (kq ≤ k) ∧ Aside0 (w'.heap[gb183]? = some (.cells #[(.slice A0_0 l0_0.length c0_0), .bool a0_1] 24 (0, 0))) ∧ Aside0 (Below w.heap.size w w'))
  case atStart => exact ⟨(0), zj, H', ⟨Nat.le_refl _⟩, ⟨by (with_reducible repeat (first | refine kN ?_ _ | refine kD ?_ | refine kA ?_ _)); exact BK183.out⟩, ⟨by repeat (first | (with_reducible first | exact HB.out | apply bA | apply bN | apply bD | refine bS ?_ GE183.out) | exact HB.out)⟩⟩
  case round =>
   clear H'
   obtain ⟨x22_1, rfl, HA, HK1, BK183, HB⟩ := hrel
   cases gk with
   | zero => exact absurd HA.out (by simp [dom_Check.l0])
   | succ k1 =>
    have H := HA.out
    clear HA
    simp only [dom_Check.l0] at H
    refine iT H ?p10 ?n10 <;> clear H
    case' p10 => intro c10b0 H; refine iLp H ?_; clear H; intro c11b0 H; refine iTp H ?_; clear H; intro c12b0 H; refine iG H ?p13 ?n13 <;> clear H
    case' p13 => intro c13 H; have c13b0 : ((((q00 l0_0 x22_1).f0) == 1) != (x22_1 == 0)) = true := c13
    case' n13 =>
     intro c13 H
     have c13b0 : ((((q00 l0_0 x22_1).f0) == 1) != (x22_1 == 0)) = false := by simpa using c13
     (try (have c13b1 : decide ((((q00 l0_0 x22_1).f0) == 1) = (x22_1 == 0)) = true := by simpa using c13))
     (try (have c13b2 : ((((q00 l0_0 x22_1).f0) == 1) == (x22_1 == 0)) = true := by simpa using c13))
     clear c13
     replace H := iB H
     obtain ⟨t186, A17, H⟩ := H
     obtain ⟨ad184, A184_2, c184_2, A184_5, c184_5, e184, hx184_0, hx184_1, hx184_2, hx184_3, hx184_4, hx184_5, HC184_2, HR184_2, HC184_5, HR184_5, p184, q184⟩ := q0m HB.out HR0_0.out x22_1 za za
     cases e184
     refine iE H ?p18 ?n18 <;> clear H
    case' p18 => intro c18b0 c18b1 H
    case' n18 => intro c18 c18b0 c18b1 H
    case' n10 => intro c10b0 H; replace H := iB H; obtain ⟨t187, A27, H⟩ := H; obtain ⟨hczL_0, hczL_1, hfzL_0, hfzL_1⟩ := bk2 BK183.out; refine iE H ?p28 ?n28 <;> clear H
    case' p28 => intro c28b0 c28b1 H
    case' n28 => intro c28 c28b0 c28b1 H
    case p13 =>
     (try (have c13b1 : decide ((((q00 l0_0 x22_1).f0) == 1) = (x22_1 == 0)) = false := by simpa using c13))
     (try (have c13b2 : ((((q00 l0_0 x22_1).f0) == 1) == (x22_1 == 0)) = false := by simpa using c13))
     (try (have c13b3 : ¬ ((((q00 l0_0 x22_1).f0) == 1) = (x22_1 == 0)) := by simpa using c13))
     clear c13
     obtain rfl := Option.some.inj H
     obtain ⟨ad184, A184_2, c184_2, A184_5, c184_5, e184, hx184_0, hx184_1, hx184_2, hx184_3, hx184_4, hx184_5, HC184_2, HR184_2, HC184_5, HR184_5, p184, q184⟩ := q0m HB.out HR0_0.out x22_1 za za
     cases e184
     go_wp2_with (first | ((with_reducible refine q0g (N := 4) rfl ?_); refine q0n ?hg (N := 4) ?hd (cs := #[.int .i64 0, .string (⟨#[]⟩ : ByteArray), .slice none 0 0, .string (⟨#[]⟩ : ByteArray), .int .i64 0, .slice none 0 0]) (t := 43) ?hr ?_; (case hd => rfl); (case hg => rfl); (case hr => first | (go_simp; done) | (go_simp; rfl)); intro gb185 hg w14 hbox hb; have n0_ := aS (q07 (g := gb183) (o := .cells #[.slice (some ad184) l0_0.length c0_0, .bool a0_1] 24 (0, 0)) (z8 BK183.out) hb); have n1_ := aS (q01 (z1 HB.out GE183.out) hb); have n2_ := aS (hbox); have n3_ := aS ((by rw [hg]; exact (q0h (z1 HB.out GE183.out)) : w.heap.size ≤ gb185)); have n4_ := aS ((by rw [hg]; exact (q0h (z1 HB.out GE183.out)) : w.heap.size ≤ gb185)); have n5_ := aS ((by rw [hg]; exact Nat.ne_of_lt (q13 (g := gb183) (o := .cells #[.slice (some ad184) l0_0.length c0_0, .bool a0_1] 24 (0, 0)) (z8 BK183.out)) : gb183 ≠ gb185)); have n6_ := aS ((by rw [hg]; exact Nat.ne_of_gt (q13 (g := gb183) (o := .cells #[.slice (some ad184) l0_0.length c0_0, .bool a0_1] 24 (0, 0)) (z8 BK183.out)) : gb185 ≠ gb183)); clear BK183; clear HB; have BK183 := n0_; have HB := n1_; have BK185 := n2_; have GW185 := n3_; have GE185 := n4_; have NB183_185 := n5_; have NB185_183 := n6_; clear n0_ n1_ n2_ n3_ n4_ n5_ n6_; clear hb hbox hg; have hnb15 := NB185_183.out; have hnc15 := NB183_185.out; obtain ⟨hczL_0, hczL_1, hczL_2, hczL_3, hczL_4, hczL_5, hfzL_0, hfzL_1, hfzL_2, hfzL_3, hfzL_4, hfzL_5⟩ := bk6 BK185.out))
     go_ret
     exact ⟨by first | rfl | (simp [q04, q03] <;> rfl) | (simp [*, q04, q03] <;> rfl), by repeat (first | (with_reducible first | exact HB.out | apply bA | apply bN | apply bD | refine bS ?_ GE183.out | refine bS ?_ GE185.out) | exact HB.out)⟩
    case p18 =>
     have H' := aS H
     clear H
     go_wp2_with (first | ((with_reducible refine q0g (N := 4) rfl ?_); refine q0n ?hg (N := 4) ?hd (cs := #[.int .i64 0, .string (⟨#[]⟩ : ByteArray), .slice none 0 0, .string (⟨#[]⟩ : ByteArray), .int .i64 0, .slice none 0 0]) (t := 43) ?hr ?_; (case hd => rfl); (case hg => rfl); (case hr => first | (go_simp; done) | (go_simp; rfl)); intro gb185 hg w19 hbox hb; have n0_ := aS (q07 (g := gb183) (o := .cells #[.slice (some ad184) l0_0.length c0_0, .bool a0_1] 24 (0, 0)) (z8 BK183.out) hb); have n1_ := aS (q01 (z1 HB.out GE183.out) hb); have n2_ := aS (hbox); have n3_ := aS ((by rw [hg]; exact (q0h (z1 HB.out GE183.out)) : w.heap.size ≤ gb185)); have n4_ := aS ((by rw [hg]; exact (q0h (z1 HB.out GE183.out)) : w.heap.size ≤ gb185)); have n5_ := aS ((by rw [hg]; exact Nat.ne_of_lt (q13 (g := gb183) (o := .cells #[.slice (some ad184) l0_0.length c0_0, .bool a0_1] 24 (0, 0)) (z8 BK183.out)) : gb183 ≠ gb185)); have n6_ := aS ((by rw [hg]; exact Nat.ne_of_gt (q13 (g := gb183) (o := .cells #[.slice (some ad184) l0_0.length c0_0, .bool a0_1] 24 (0, 0)) (z8 BK183.out)) : gb185 ≠ gb183)); clear BK183; clear HB; have BK183 := n0_; have HB := n1_; have BK185 := n2_; have GW185 := n3_; have GE185 := n4_; have NB183_185 := n5_; have NB185_183 := n6_; clear n0_ n1_ n2_ n3_ n4_ n5_ n6_; clear hb hbox hg; have hnb20 := NB185_183.out; have hnc20 := NB183_185.out; obtain ⟨hczL_0, hczL_1, hczL_2, hczL_3, hczL_4, hczL_5, hfzL_0, hfzL_1, hfzL_2, hfzL_3, hfzL_4, hfzL_5⟩ := bk6 BK185.out) | ((with_reducible refine q06 (f := 100) rfl ?_); refine q0l (some 34) rfl rfl Tryd.func100 (by kernel_rfl) rfl #[.agg #[.int .i64 ((q00 l0_0 x22_1).f0), .string ((q00 l0_0 x22_1).f1), .slice A184_2 ((q00 l0_0 x22_1).f2).length c184_2, .string ((q00 l0_0 x22_1).f3), .int .i64 ((q00 l0_0 x22_1).f4), .slice A184_5 ((q00 l0_0 x22_1).f5).length c184_5]] rfl zd ?_; (with_reducible refine (dom_one.calls k1 ((q00 l0_0 x22_1).f0) ((q00 l0_0 x22_1).f1) _ _ ((q00 l0_0 x22_1).f2) ((q00 l0_0 x22_1).f3) ((q00 l0_0 x22_1).f4) _ _ ((q00 l0_0 x22_1).f5) t186 _ ?side1 ?side2 ?side3 ?side4 A17.out).mono ?_); (case side1 => exact Kd.C_below HR184_2.out (by repeat (first | (with_reducible first | exact HB.out | apply bA | apply bN | apply bD | refine bS ?_ GE183.out | refine bS ?_ GE185.out) | exact HB.out))); (case side2 => exact HC184_2.out); (case side3 => exact Kd.C_below HR184_5.out (by repeat (first | (with_reducible first | exact HB.out | apply bA | apply bN | apply bD | refine bS ?_ GE183.out | refine bS ?_ GE185.out) | exact HB.out))); (case side4 => exact HC184_5.out); rintro e w22 ⟨rfl, hb⟩; refine ⟨_, rfl, ?_⟩; replace BK183 := aS (q07 (g := gb183) (o := .cells #[.slice (some ad184) l0_0.length c0_0, .bool a0_1] 24 (0, 0)) (by (with_reducible repeat (first | refine kN ?_ _ | refine kD ?_ | refine kA ?_ _)); refine q0o ?_ NB183_185.out _; (with_reducible repeat (first | refine kN ?_ _ | refine kD ?_ | refine kA ?_ _)); refine q0o ?_ NB183_185.out _; (with_reducible repeat (first | refine kN ?_ _ | refine kD ?_ | refine kA ?_ _)); refine q0o ?_ NB183_185.out _; (with_reducible repeat (first | refine kN ?_ _ | refine kD ?_ | refine kA ?_ _)); refine q0o ?_ NB183_185.out _; (with_reducible repeat (first | refine kN ?_ _ | refine kD ?_ | refine kA ?_ _)); refine q0o ?_ NB183_185.out _; (with_reducible repeat (first | refine kN ?_ _ | refine kD ?_ | refine kA ?_ _)); refine q0o ?_ NB183_185.out _; (with_reducible repeat (first | refine kN ?_ _ | refine kD ?_ | refine kA ?_ _)); exact BK183.out) hb); replace BK185 := aS (q07 (g := gb185) (o := .cells #[.int .i64 ((q00 l0_0 x22_1).f0), .string ((q00 l0_0 x22_1).f1), .slice A184_2 ((q00 l0_0 x22_1).f2).length c184_2, .string ((q00 l0_0 x22_1).f3), .int .i64 ((q00 l0_0 x22_1).f4), .slice A184_5 ((q00 l0_0 x22_1).f5).length c184_5] 43 (0, 0)) (by (with_reducible repeat (first | refine kN ?_ _ | refine kD ?_ | refine kA ?_ _)); refine q0t (cs := #[.int .i64 ((q00 l0_0 x22_1).f0), .string ((q00 l0_0 x22_1).f1), .slice A184_2 ((q00 l0_0 x22_1).f2).length c184_2, .string ((q00 l0_0 x22_1).f3), .int .i64 ((q00 l0_0 x22_1).f4), .slice none 0 0]) ?_ 5 _ rfl; (with_reducible repeat (first | refine kN ?_ _ | refine kD ?_ | refine kA ?_ _)); refine q0t (cs := #[.int .i64 ((q00 l0_0 x22_1).f0), .string ((q00 l0_0 x22_1).f1), .slice A184_2 ((q00 l0_0 x22_1).f2).length c184_2, .string ((q00 l0_0 x22_1).f3), .int .i64 0, .slice none 0 0]) ?_ 4 _ rfl; (with_reducible repeat (first | refine kN ?_ _ | refine kD ?_ | refine kA ?_ _)); refine q0t (cs := #[.int .i64 ((q00 l0_0 x22_1).f0), .string ((q00 l0_0 x22_1).f1), .slice A184_2 ((q00 l0_0 x22_1).f2).length c184_2, .string (⟨#[]⟩ : ByteArray), .int .i64 0, .slice none 0 0]) ?_ 3 _ rfl; (with_reducible repeat (first | refine kN ?_ _ | refine kD ?_ | refine kA ?_ _)); refine q0t (cs := #[.int .i64 ((q00 l0_0 x22_1).f0), .string ((q00 l0_0 x22_1).f1), .slice none 0 0, .string (⟨#[]⟩ : ByteArray), .int .i64 0, .slice none 0 0]) ?_ 2 _ rfl; (with_reducible repeat (first | refine kN ?_ _ | refine kD ?_ | refine kA ?_ _)); refine q0t (cs := #[.int .i64 ((q00 l0_0 x22_1).f0), .string (⟨#[]⟩ : ByteArray), .slice none 0 0, .string (⟨#[]⟩ : ByteArray), .int .i64 0, .slice none 0 0]) ?_ 1 _ rfl; (with_reducible repeat (first | refine kN ?_ _ | refine kD ?_ | refine kA ?_ _)); refine q0t (cs := #[.int .i64 0, .string (⟨#[]⟩ : ByteArray), .slice none 0 0, .string (⟨#[]⟩ : ByteArray), .int .i64 0, .slice none 0 0]) ?_ 0 _ rfl; (with_reducible repeat (first | refine kN ?_ _ | refine kD ?_ | refine kA ?_ _)); exact BK185.out) hb); replace HB := aS (q01 (by repeat (first | (with_reducible first | exact HB.out | apply bA | apply bN | apply bD | refine bS ?_ GE183.out | refine bS ?_ GE185.out) | exact HB.out)) hb); (try clear hb); (try clear hb2); (try clear hk); (try clear hi)))
     go_roundg k1
     case measure => have := HK1.out; omega
     case rel => exact ⟨(wrap64 (x22_1 + 1)), zj, H', ⟨by have := HK1.out; omega⟩, ⟨by (with_reducible repeat (first | refine kN ?_ _ | refine kD ?_ | refine kA ?_ _)); exact BK183.out⟩, ⟨by repeat (first | (with_reducible first | exact HB.out | apply bA | apply bN | apply bD | refine bS ?_ GE183.out | refine bS ?_ GE185.out) | exact HB.out)⟩⟩
    case n18 =>
     obtain rfl := Option.some.inj H
     go_wp2_with (first | ((with_reducible refine q0g (N := 4) rfl ?_); refine q0n ?hg (N := 4) ?hd (cs := #[.int .i64 0, .string (⟨#[]⟩ : ByteArray), .slice none 0 0, .string (⟨#[]⟩ : ByteArray), .int .i64 0, .slice none 0 0]) (t := 43) ?hr ?_; (case hd => rfl); (case hg => rfl); (case hr => first | (go_simp; done) | (go_simp; rfl)); intro gb185 hg w23 hbox hb; have n0_ := aS (q07 (g := gb183) (o := .cells #[.slice (some ad184) l0_0.length c0_0, .bool a0_1] 24 (0, 0)) (z8 BK183.out) hb); have n1_ := aS (q01 (z1 HB.out GE183.out) hb); have n2_ := aS (hbox); have n3_ := aS ((by rw [hg]; exact (q0h (z1 HB.out GE183.out)) : w.heap.size ≤ gb185)); have n4_ := aS ((by rw [hg]; exact (q0h (z1 HB.out GE183.out)) : w.heap.size ≤ gb185)); have n5_ := aS ((by rw [hg]; exact Nat.ne_of_lt (q13 (g := gb183) (o := .cells #[.slice (some ad184) l0_0.length c0_0, .bool a0_1] 24 (0, 0)) (z8 BK183.out)) : gb183 ≠ gb185)); have n6_ := aS ((by rw [hg]; exact Nat.ne_of_gt (q13 (g := gb183) (o := .cells #[.slice (some ad184) l0_0.length c0_0, .bool a0_1] 24 (0, 0)) (z8 BK183.out)) : gb185 ≠ gb183)); clear BK183; clear HB; have BK183 := n0_; have HB := n1_; have BK185 := n2_; have GW185 := n3_; have GE185 := n4_; have NB183_185 := n5_; have NB185_183 := n6_; clear n0_ n1_ n2_ n3_ n4_ n5_ n6_; clear hb hbox hg; have hnb24 := NB185_183.out; have hnc24 := NB183_185.out; obtain ⟨hczL_0, hczL_1, hczL_2, hczL_3, hczL_4, hczL_5, hfzL_0, hfzL_1, hfzL_2, hfzL_3, hfzL_4, hfzL_5⟩ := bk6 BK185.out) | ((with_reducible refine q06 (f := 100) rfl ?_); refine q0l (some 34) rfl rfl Tryd.func100 (by kernel_rfl) rfl #[.agg #[.int .i64 ((q00 l0_0 x22_1).f0), .string ((q00 l0_0 x22_1).f1), .slice A184_2 ((q00 l0_0 x22_1).f2).length c184_2, .string ((q00 l0_0 x22_1).f3), .int .i64 ((q00 l0_0 x22_1).f4), .slice A184_5 ((q00 l0_0 x22_1).f5).length c184_5]] rfl zd ?_; (with_reducible refine (dom_one.calls k1 ((q00 l0_0 x22_1).f0) ((q00 l0_0 x22_1).f1) _ _ ((q00 l0_0 x22_1).f2) ((q00 l0_0 x22_1).f3) ((q00 l0_0 x22_1).f4) _ _ ((q00 l0_0 x22_1).f5) t186 _ ?side1 ?side2 ?side3 ?side4 A17.out).mono ?_); (case side1 => exact Kd.C_below HR184_2.out (by repeat (first | (with_reducible first | exact HB.out | apply bA | apply bN | apply bD | refine bS ?_ GE183.out | refine bS ?_ GE185.out) | exact HB.out))); (case side2 => exact HC184_2.out); (case side3 => exact Kd.C_below HR184_5.out (by repeat (first | (with_reducible first | exact HB.out | apply bA | apply bN | apply bD | refine bS ?_ GE183.out | refine bS ?_ GE185.out) | exact HB.out))); (case side4 => exact HC184_5.out); rintro e w26 ⟨rfl, hb⟩; refine ⟨_, rfl, ?_⟩; replace BK183 := aS (q07 (g := gb183) (o := .cells #[.slice (some ad184) l0_0.length c0_0, .bool a0_1] 24 (0, 0)) (by (with_reducible repeat (first | refine kN ?_ _ | refine kD ?_ | refine kA ?_ _)); refine q0o ?_ NB183_185.out _; (with_reducible repeat (first | refine kN ?_ _ | refine kD ?_ | refine kA ?_ _)); refine q0o ?_ NB183_185.out _; (with_reducible repeat (first | refine kN ?_ _ | refine kD ?_ | refine kA ?_ _)); refine q0o ?_ NB183_185.out _; (with_reducible repeat (first | refine kN ?_ _ | refine kD ?_ | refine kA ?_ _)); refine q0o ?_ NB183_185.out _; (with_reducible repeat (first | refine kN ?_ _ | refine kD ?_ | refine kA ?_ _)); refine q0o ?_ NB183_185.out _; (with_reducible repeat (first | refine kN ?_ _ | refine kD ?_ | refine kA ?_ _)); refine q0o ?_ NB183_185.out _; (with_reducible repeat (first | refine kN ?_ _ | refine kD ?_ | refine kA ?_ _)); exact BK183.out) hb); replace BK185 := aS (q07 (g := gb185) (o := .cells #[.int .i64 ((q00 l0_0 x22_1).f0), .string ((q00 l0_0 x22_1).f1), .slice A184_2 ((q00 l0_0 x22_1).f2).length c184_2, .string ((q00 l0_0 x22_1).f3), .int .i64 ((q00 l0_0 x22_1).f4), .slice A184_5 ((q00 l0_0 x22_1).f5).length c184_5] 43 (0, 0)) (by (with_reducible repeat (first | refine kN ?_ _ | refine kD ?_ | refine kA ?_ _)); refine q0t (cs := #[.int .i64 ((q00 l0_0 x22_1).f0), .string ((q00 l0_0 x22_1).f1), .slice A184_2 ((q00 l0_0 x22_1).f2).length c184_2, .string ((q00 l0_0 x22_1).f3), .int .i64 ((q00 l0_0 x22_1).f4), .slice none 0 0]) ?_ 5 _ rfl; (with_reducible repeat (first | refine kN ?_ _ | refine kD ?_ | refine kA ?_ _)); refine q0t (cs := #[.int .i64 ((q00 l0_0 x22_1).f0), .string ((q00 l0_0 x22_1).f1), .slice A184_2 ((q00 l0_0 x22_1).f2).length c184_2, .string ((q00 l0_0 x22_1).f3), .int .i64 0, .slice none 0 0]) ?_ 4 _ rfl; (with_reducible repeat (first | refine kN ?_ _ | refine kD ?_ | refine kA ?_ _)); refine q0t (cs := #[.int .i64 ((q00 l0_0 x22_1).f0), .string ((q00 l0_0 x22_1).f1), .slice A184_2 ((q00 l0_0 x22_1).f2).length c184_2, .string (⟨#[]⟩ : ByteArray), .int .i64 0, .slice none 0 0]) ?_ 3 _ rfl; (with_reducible repeat (first | refine kN ?_ _ | refine kD ?_ | refine kA ?_ _)); refine q0t (cs := #[.int .i64 ((q00 l0_0 x22_1).f0), .string ((q00 l0_0 x22_1).f1), .slice none 0 0, .string (⟨#[]⟩ : ByteArray), .int .i64 0, .slice none 0 0]) ?_ 2 _ rfl; (with_reducible repeat (first | refine kN ?_ _ | refine kD ?_ | refine kA ?_ _)); refine q0t (cs := #[.int .i64 ((q00 l0_0 x22_1).f0), .string (⟨#[]⟩ : ByteArray), .slice none 0 0, .string (⟨#[]⟩ : ByteArray), .int .i64 0, .slice none 0 0]) ?_ 1 _ rfl; (with_reducible repeat (first | refine kN ?_ _ | refine kD ?_ | refine kA ?_ _)); refine q0t (cs := #[.int .i64 0, .string (⟨#[]⟩ : ByteArray), .slice none 0 0, .string (⟨#[]⟩ : ByteArray), .int .i64 0, .slice none 0 0]) ?_ 0 _ rfl; (with_reducible repeat (first | refine kN ?_ _ | refine kD ?_ | refine kA ?_ _)); exact BK185.out) hb); replace HB := aS (q01 (by repeat (first | (with_reducible first | exact HB.out | apply bA | apply bN | apply bD | refine bS ?_ GE183.out | refine bS ?_ GE185.out) | exact HB.out)) hb); (try clear hb); (try clear hb2); (try clear hk); (try clear hi)))
     go_ret
     exact ⟨by first | rfl | (simp [q04, q03] <;> rfl) | (simp [*, q04, q03] <;> rfl), by repeat (first | (with_reducible first | exact HB.out | apply bA | apply bN | apply bD | refine bS ?_ GE183.out | refine bS ?_ GE185.out) | exact HB.out)⟩
    case p28 =>
     have H' := aS H
     clear H
     go_wp2_with (first | ((with_reducible refine q06 (f := 101) rfl ?_); refine q0l (some 40) rfl rfl Tryd.func101 (by kernel_rfl) rfl #[.agg #[.slice A0_0 l0_0.length c0_0, .bool a0_1]] rfl zd ?_; (with_reducible refine (dom_kids.calls k1 _ _ l0_0 a0_1 t187 _ ?side1 ?side2 A27.out).mono ?_); (case side1 => repeat (first | exact (Kd.C_below HR0_0.out HB.out) | (with_reducible refine cA ?_ _) | (with_reducible refine cN ?_ _) | (with_reducible refine cD ?_))); (case side2 => exact HC0_0.out); rintro e w30 ⟨rfl, hb⟩; refine ⟨_, rfl, ?_⟩; replace BK183 := aS (q07 (g := gb183) (o := .cells #[.slice A0_0 l0_0.length c0_0, .bool a0_1] 24 (0, 0)) (z8 BK183.out) hb); replace HB := aS (q01 (z1 HB.out GE183.out) hb); (try clear hb); (try clear hb2); (try clear hk); (try clear hi); obtain ⟨hczL_0, hczL_1, hfzL_0, hfzL_1⟩ := bk2 BK183.out))
     go_loopg [47] k1 (fun kq v47 w' => ∃ (x47_2 : Int), v47 = .int .i64 x47_2 ∧ Aside0 (dom_Check.l1 kq (l0_0.length : Int) x47_2 l0_0 a0_1 = some r) ∧ Aside0 (kq ≤ k1) ∧ Aside0 (w'.heap[gb183]? = some (.cells #[(.slice A0_0 l0_0.length c0_0), .bool a0_1] 24 (0, 0))) ∧ Aside0 (Below w.heap.size w w'))
     case atStart => exact ⟨(0), zj, H', ⟨Nat.le_refl _⟩, ⟨by (with_reducible repeat (first | refine kN ?_ _ | refine kD ?_ | refine kA ?_ _)); exact BK183.out⟩, ⟨by repeat (first | (with_reducible first | exact HB.out | apply bA | apply bN | apply bD | refine bS ?_ GE183.out) | exact HB.out)⟩⟩
     case round =>
      clear H'
      obtain ⟨x47_2, rfl, HA, HK2, BK183, HB⟩ := hrel
      cases gk with
      | zero => exact absurd HA.out (by simp [dom_Check.l1])
      | succ k2 =>
       have H := HA.out
       clear HA
       simp only [dom_Check.l1] at H
       refine iT H ?p32 ?n32 <;> clear H
       case' p32 => intro c32b0 H; replace H := iB H; obtain ⟨t188, A33, H⟩ := H; obtain ⟨hczL_0, hczL_1, hfzL_0, hfzL_1⟩ := bk2 BK183.out; refine iT H ?p34 ?n34 <;> clear H
       case' p34 => intro c34b0 H
       case' n34 => intro c34b0 H; refine iT H ?p38 ?n38 <;> clear H
       case' p38 => intro c38b0 H
       case' n38 => intro c38b0 H
       case' n32 => intro c32b0 H
       case p34 =>
        obtain rfl := Option.some.inj H
        go_wp2_with (first | ((with_reducible refine q06 (f := 102) rfl ?_); refine q0l (some 52) rfl rfl Tryd.func102 (by kernel_rfl) rfl #[.agg #[.slice A0_0 l0_0.length c0_0, .bool a0_1], .int .i64 x47_2] rfl zd ?_; (with_reducible refine (dom_up.calls k2 _ _ l0_0 a0_1 x47_2 t188 _ ?side1 ?side2 A33.out).mono ?_); (case side1 => repeat (first | exact (Kd.C_below HR0_0.out HB.out) | (with_reducible refine cA ?_ _) | (with_reducible refine cN ?_ _) | (with_reducible refine cD ?_))); (case side2 => exact HC0_0.out); rintro e w36 ⟨rfl, hb⟩; refine ⟨_, rfl, ?_⟩; replace BK183 := aS (q07 (g := gb183) (o := .cells #[.slice A0_0 l0_0.length c0_0, .bool a0_1] 24 (0, 0)) (z8 BK183.out) hb); replace HB := aS (q01 (z1 HB.out GE183.out) hb); (try clear hb); (try clear hb2); (try clear hk); (try clear hi); obtain ⟨hczL_0, hczL_1, hfzL_0, hfzL_1⟩ := bk2 BK183.out))
        go_ret
        exact ⟨by first | rfl | (simp [q04, q03] <;> rfl) | (simp [*, q04, q03] <;> rfl), by repeat (first | (with_reducible first | exact HB.out | apply bA | apply bN | apply bD | refine bS ?_ GE183.out) | exact HB.out)⟩
       case p38 =>
        obtain rfl := Option.some.inj H
        go_wp2_with (first | ((with_reducible refine q06 (f := 102) rfl ?_); refine q0l (some 52) rfl rfl Tryd.func102 (by kernel_rfl) rfl #[.agg #[.slice A0_0 l0_0.length c0_0, .bool a0_1], .int .i64 x47_2] rfl zd ?_; (with_reducible refine (dom_up.calls k2 _ _ l0_0 a0_1 x47_2 t188 _ ?side1 ?side2 A33.out).mono ?_); (case side1 => repeat (first | exact (Kd.C_below HR0_0.out HB.out) | (with_reducible refine cA ?_ _) | (with_reducible refine cN ?_ _) | (with_reducible refine cD ?_))); (case side2 => exact HC0_0.out); rintro e w40 ⟨rfl, hb⟩; refine ⟨_, rfl, ?_⟩; replace BK183 := aS (q07 (g := gb183) (o := .cells #[.slice A0_0 l0_0.length c0_0, .bool a0_1] 24 (0, 0)) (z8 BK183.out) hb); replace HB := aS (q01 (z1 HB.out GE183.out) hb); (try clear hb); (try clear hb2); (try clear hk); (try clear hi); obtain ⟨hczL_0, hczL_1, hfzL_0, hfzL_1⟩ := bk2 BK183.out))
        go_ret
        exact ⟨by first | rfl | (simp [q04, q03] <;> rfl) | (simp [*, q04, q03] <;> rfl), by repeat (first | (with_reducible first | exact HB.out | apply bA | apply bN | apply bD | refine bS ?_ GE183.out) | exact HB.out)⟩
       case n38 =>
        have H' := aS H
        clear H
        go_wp2_with (first | ((with_reducible refine q06 (f := 102) rfl ?_); refine q0l (some 52) rfl rfl Tryd.func102 (by kernel_rfl) rfl #[.agg #[.slice A0_0 l0_0.length c0_0, .bool a0_1], .int .i64 x47_2] rfl zd ?_; (with_reducible refine (dom_up.calls k2 _ _ l0_0 a0_1 x47_2 t188 _ ?side1 ?side2 A33.out).mono ?_); (case side1 => repeat (first | exact (Kd.C_below HR0_0.out HB.out) | (with_reducible refine cA ?_ _) | (with_reducible refine cN ?_ _) | (with_reducible refine cD ?_))); (case side2 => exact HC0_0.out); rintro e w43 ⟨rfl, hb⟩; refine ⟨_, rfl, ?_⟩; replace BK183 := aS (q07 (g := gb183) (o := .cells #[.slice A0_0 l0_0.length c0_0, .bool a0_1] 24 (0, 0)) (z8 BK183.out) hb); replace HB := aS (q01 (z1 HB.out GE183.out) hb); (try clear hb); (try clear hb2); (try clear hk); (try clear hi); obtain ⟨hczL_0, hczL_1, hfzL_0, hfzL_1⟩ := bk2 BK183.out))
        go_roundg k2
        case measure => have := HK1.out; have := HK2.out; omega
        case rel => exact ⟨(wrap64 (x47_2 + 1)), zj, H', ⟨by have := HK1.out; have := HK2.out; omega⟩, ⟨by (with_reducible repeat (first | refine kN ?_ _ | refine kD ?_ | refine kA ?_ _)); exact BK183.out⟩, ⟨by repeat (first | (with_reducible first | exact HB.out | apply bA | apply bN | apply bD | refine bS ?_ GE183.out) | exact HB.out)⟩⟩
       case n32 =>
        obtain rfl := Option.some.inj H
        go_wp2
        go_ret
        exact ⟨by first | rfl | (simp [q04, q03] <;> rfl) | (simp [*, q04, q03] <;> rfl), by repeat (first | (with_reducible first | exact HB.out | apply bA | apply bN | apply bD | refine bS ?_ GE183.out) | exact HB.out)⟩
    case n28 =>
     obtain rfl := Option.some.inj H
     go_wp2_with (first | ((with_reducible refine q06 (f := 101) rfl ?_); refine q0l (some 40) rfl rfl Tryd.func101 (by kernel_rfl) rfl #[.agg #[.slice A0_0 l0_0.length c0_0, .bool a0_1]] rfl zd ?_; (with_reducible refine (dom_kids.calls k1 _ _ l0_0 a0_1 t187 _ ?side1 ?side2 A27.out).mono ?_); (case side1 => repeat (first | exact (Kd.C_below HR0_0.out HB.out) | (with_reducible refine cA ?_ _) | (with_reducible refine cN ?_ _) | (with_reducible refine cD ?_))); (case side2 => exact HC0_0.out); rintro e w46 ⟨rfl, hb⟩; refine ⟨_, rfl, ?_⟩; replace BK183 := aS (q07 (g := gb183) (o := .cells #[.slice A0_0 l0_0.length c0_0, .bool a0_1] 24 (0, 0)) (z8 BK183.out) hb); replace HB := aS (q01 (z1 HB.out GE183.out) hb); (try clear hb); (try clear hb2); (try clear hk); (try clear hi)))
     go_ret
     exact ⟨by first | rfl | (simp [q04, q03] <;> rfl) | (simp [*, q04, q03] <;> rfl), by repeat (first | (with_reducible first | exact HB.out | apply bA | apply bN | apply bD | refine bS ?_ GE183.out) | exact HB.out)⟩
end Go.Proofs.YthjnallbbhnndaaDoor.XWs
namespace Go.Proofs.YthjnallbbhnndaaDoor.Dm
open Go Go.RowKit Go.Proofs.YthjnallbbhnndaaDoor.XWs Go.Proofs.YthjnallbbhnndaaDoorW.PrintWords Go.Proofs.YthjnallbbhnndaaDoorW.PrintLast
def smallB (b : Int) : Bool := decide (97 ≤ b) && decide (b ≤ 122)
def signB (b : Int) : Bool := smallB b || (decide (48 ≤ b) && decide (b ≤ 57)) || decide (b = 45) || decide (b = 95) || decide (b = 58)
def firstB (el : Bool) (b : Int) : Bool := smallB b || (!el && (decide (b = 45) || decide (b = 95)))
def nameB (s : ByteArray) (el : Bool) : Bool := decide (1 ≤ s.size) && (decide (s.size ≤ 40) && ((bytesOf s).all signB && firstB el (bt s 0)))
theorem drop_bt (s : ByteArray) (i : Nat) (h : i < s.size) : (bytesOf s).drop i = bt s (i : Int) :: (bytesOf s).drop (i + 1) := by
  have hl : i < (bytesOf s).length := by rw [bytesOf_length]; exact h
  rw [List.drop_eq_getElem_cons hl]
  congr 1
  have := rd_bytesOf s (i : Int)
  rw [← this]
  simp [rd, List.getD, hl]
theorem j2_eq (k : Nat) (s : ByteArray) (el : Bool) (i b : Int) : clerestoryref1_domName.j2 (k + 1) s el i b (smallB b) = clerestoryref1_domName.j3 k s el i b (smallB b) (!signB b) := by
  rw [clerestoryref1_domName.j2]
  unfold signB
  cases hs : smallB b with
  | true => simp
  | false =>
    rw [if_neg (by decide)]
    by_cases h1 : b ≥ 48
    · rw [if_pos h1]
      by_cases h2 : b ≤ 57
      · rw [if_pos h2]; simp [h1, h2]
      · rw [if_neg h2]
        by_cases h3 : b = 45
        · rw [if_pos h3]; simp [h3]
        · rw [if_neg h3]
          by_cases h4 : b = 95
          · rw [if_pos h4]; simp [h4]
          · rw [if_neg h4]
            by_cases h5 : b = 58
            · simp [h5]
            · rw [show (b != 58) = true from by simp [h5]]; simp [h2, h3, h4, h5]
    · rw [if_neg h1]
      by_cases h3 : b = 45
      · rw [if_pos h3]; simp [h3]
      · rw [if_neg h3]
        by_cases h4 : b = 95
        · rw [if_pos h4]; simp [h4]
        · rw [if_neg h4]
          by_cases h5 : b = 58
          · simp [h5]
          · rw [show (b != 58) = true from by simp [h5]]; simp [h1, h3, h4, h5]
theorem l0_eq (k : Nat) (s : ByteArray) (el : Bool) (i : Nat) (h : i < s.size) : clerestoryref1_domName.l0 (k + 2) s el (i : Int) = clerestoryref1_domName.j3 k s el (i : Int) (bt s (i : Int)) (smallB (bt s (i : Int))) (!signB (bt s (i : Int))) := by
  rw [clerestoryref1_domName.l0, if_pos (by omega), if_pos (by omega), ← j2_eq]
  generalize bt s (i : Int) = b
  by_cases h1 : b ≥ 97
  · rw [if_pos h1, show decide (b ≤ 122) = smallB b from by unfold smallB; simp [h1]]
  · rw [if_neg h1, show false = smallB b from by unfold smallB; simp [h1]]
theorem refname_l0 (s : ByteArray) (el : Bool) (hs : s.size ≤ 1000) (d : Nat) : ∀ (i k : Nat), i + d = s.size → 3 * d < k → 1 ≤ i → clerestoryref1_domName.l0 k s el (i : Int) = some (((bytesOf s).drop i).all signB) := by
  induction d with
  | zero =>
    intro i k h hk _
    obtain ⟨k, rfl⟩ : ∃ q, k = q + 1 := ⟨k - 1, by omega⟩
    rw [clerestoryref1_domName.l0, if_neg (by omega), List.drop_eq_nil_of_le (by rw [bytesOf_length]; omega)]
    rfl
  | succ d ih =>
    intro i k h hk h1
    obtain ⟨k, rfl⟩ : ∃ q, k = q + 1 + 2 := ⟨k - 3, by omega⟩
    rw [l0_eq (k + 1) s el i (by omega), clerestoryref1_domName.j3, drop_bt s i (by omega), List.all_cons]
    cases hb : signB (bt s (i : Int)) with
    | false => rw [if_pos (by decide)]; rfl
    | true =>
      rw [if_neg (by decide), if_neg (by omega), show wrap64 ((i : Int) + 1) = ((i + 1 : Nat) : Int) from by unfold wrap64; omega, ih (i + 1) k (by omega) (by omega) (by omega)]
      rfl
theorem refname_eq (s : ByteArray) (el : Bool) (k : Nat) (hk : 130 < k) : clerestoryref1_domName.f k s el = some (nameB s el) := by
  obtain ⟨k, rfl⟩ : ∃ q, k = q + 1 + 2 + 1 := ⟨k - 4, by omega⟩
  unfold clerestoryref1_domName.f nameB
  by_cases h1 : s.size < 1
  · rw [if_pos (by omega), clerestoryref1_domName.j0, if_pos rfl]
    have : ¬ 1 ≤ s.size := by omega
    simp [this]
  · rw [if_neg (by omega), clerestoryref1_domName.j0]
    by_cases h2 : s.size ≤ 40
    · rw [if_neg (by simp; omega), show (0 : Int) = ((0 : Nat) : Int) from rfl, l0_eq (k + 1) s el 0 (by omega), clerestoryref1_domName.j3]
      have hd := drop_bt s 0 (by omega)
      rw [List.drop_zero] at hd
      rw [hd, List.all_cons, show decide (1 ≤ s.size) = true from decide_eq_true (by omega), show decide (s.size ≤ 40) = true from decide_eq_true h2]
      have hr := refname_l0 s el (by omega) (s.size - 1) 1 k (by omega) (by omega) (Nat.le_refl _)
      rw [show wrap64 (((0 : Nat) : Int) + 1) = ((1 : Nat) : Int) from by unfold wrap64; decide, hr]
      generalize ((bytesOf s).drop (0 + 1)) = t at hr ⊢
      generalize bt s ((0 : Nat) : Int) = b
      unfold firstB
      cases hb : signB b with
      | false => rw [if_pos (by decide)]; simp
      | true =>
        rw [if_neg (by decide), if_pos (by decide)]
        cases hsm : smallB b with
        | true => simp
        | false =>
          rw [if_neg (by decide)]
          cases el with
          | true => simp
          | false =>
            rw [if_neg (by decide)]
            by_cases h3 : b = 45
            · rw [if_pos h3]; simp [h3]
            · rw [if_neg h3]
              by_cases h4 : b = 95
              · rw [if_pos h4]; simp [h4]
              · rw [if_neg h4]; simp [h3, h4]
    · rw [if_pos (by simp; omega)]
      simp [h2]
def signsA : ByteArray := ⟨#[97, 98, 99, 100, 101, 102, 103, 104, 105, 106, 107, 108, 109, 110, 111, 112, 113, 114, 115, 116, 117, 118, 119, 120, 121, 122, 48, 49, 50, 51, 52, 53, 54, 55, 56, 57, 45, 95, 58]⟩
def firstA (el : Bool) : ByteArray := if el = true then signsA.extract 0 26 else signsA.extract 0 26 ++ ⟨#[45, 95]⟩
theorem first_all (el : Bool) : ∀ n : Fin 256, decide (0 ≤ Lib.indexByte (firstA el).data.toList (UInt8.ofNat n.val)) = firstB el (n.val : Int) := by
  cases el <;> decide +kernel
theorem sign_all : ∀ n : Fin 256, (signsA.data.toList).contains (UInt8.ofNat n.val) = signB (n.val : Int) := by decide +kernel
theorem first_eq (el : Bool) (b : Int) (h : 0 ≤ b ∧ b ≤ 255) : decide (0 ≤ Lib.indexByte (firstA el).data.toList (UInt8.ofNat b.toNat)) = firstB el b := by
  have := first_all el ⟨b.toNat, by omega⟩
  rw [show ((⟨b.toNat, by omega⟩ : Fin 256).val : Int) = b from by simp; omega] at this
  exact this
theorem sign_eq (c : UInt8) : (signsA.data.toList).contains c = signB (c.toNat : Int) := by
  have := sign_all ⟨c.toNat, c.toNat_lt⟩
  simpa using this
theorem dropWhile_nil {α : Type} (p : α → Bool) : ∀ l : List α, (l.dropWhile p = [] ↔ ∀ x ∈ l, p x = true)
  | [] => by simp
  | x :: t => by
    rw [List.dropWhile_cons]
    cases h : p x with
    | true => rw [if_pos rfl, dropWhile_nil p t]; simp [h]
    | false => rw [if_neg (by decide)]; simp [h]
theorem trim_nil (l cs : List UInt8) : Lib.trimS l cs = [] ↔ ∀ x ∈ l, cs.contains x = true := by
  unfold Lib.trimS Lib.trimLeftS Lib.trimRightS
  rw [dropWhile_nil]
  constructor
  · intro h x hx
    have e := List.takeWhile_append_dropWhile (p := fun y => cs.contains y) (l := l.reverse)
    have hx' : x ∈ l.reverse := List.mem_reverse.2 hx
    rw [← e] at hx'
    rcases List.mem_append.1 hx' with h1 | h1
    · exact List.all_eq_true.1 (List.all_takeWhile (p := fun y => cs.contains y) (l := l.reverse)) x h1
    · exact h x (List.mem_reverse.2 h1)
  · intro h x hx
    have h1 : x ∈ l.reverse := (List.dropWhile_sublist _).subset (List.mem_reverse.1 hx)
    exact h x (List.mem_reverse.1 h1)
theorem named_eq (s : ByteArray) (el : Bool) (hs : s.size ≤ 140737488355328) : dom_named.f s (firstA el) = some (nameB s el) := by
  unfold dom_named.f nameB
  by_cases h0 : s.toList = []
  · have : s.size = 0 := by
      rw [Lib.toList_data] at h0
      rw [← data_length, h0]; rfl
    have h2 : ¬ 1 ≤ s.size := by omega
    rw [if_pos h0]; simp [h2]
  · have hp : 1 ≤ s.size := by
      rw [Lib.toList_data] at h0
      have := List.length_pos_iff.2 h0
      rw [data_length] at this
      omega
    rw [if_neg h0]
    by_cases h1 : s.size ≤ 40
    · rw [if_pos (by omega), if_pos (by omega)]
      unfold strings_IndexByte.f strings_Trim.f
      simp only [Option.bind_some]
      have hf := first_eq el (bt s 0) (bt_range s 0)
      have ht : (((⟨(Lib.trimS s.data.toList signsA.data.toList).toArray⟩ : ByteArray).toList == ([] : List UInt8))) = (bytesOf s).all signB := by
        rw [Lib.toList_data, Bool.eq_iff_iff]
        simp only [beq_iff_eq]
        rw [trim_nil, List.all_eq_true]
        simp only [sign_eq]
        unfold bytesOf
        simp
      by_cases h2 : Lib.indexByte (firstA el).data.toList (UInt8.ofNat (bt s 0).toNat) ≥ 0
      · rw [if_pos h2, if_pos ⟨hs, by decide, by decide⟩]
        simp only [Option.bind_some]
        rw [decide_eq_true h2] at hf
        rw [← hf]
        have := ht
        unfold signsA at this
        rw [this]
        simp [hp, h1]
      · rw [if_neg h2]
        rw [decide_eq_false h2] at hf
        rw [← hf]
        simp
    · rw [if_neg (by omega)]; simp [h1]
theorem Name_eq (s : ByteArray) (hs : s.size ≤ 140737488355328) : dom_Name.f s = some (nameB s true) := by
  unfold dom_Name.f
  have := named_eq s true hs
  rw [show firstA true = (⟨#[97, 98, 99, 100, 101, 102, 103, 104, 105, 106, 107, 108, 109, 110, 111, 112, 113, 114, 115, 116, 117, 118, 119, 120, 121, 122, 48, 49, 50, 51, 52, 53, 54, 55, 56, 57, 45, 95, 58]⟩ : ByteArray).extract 0 26 from rfl] at this
  rw [if_pos (by decide), if_pos (by decide), this]
  rfl
theorem attrName_eq (s : ByteArray) (hs : s.size ≤ 140737488355328) : dom_attrName.f s = some (nameB s false) := by
  unfold dom_attrName.f
  have := named_eq s false hs
  rw [show firstA false = (⟨#[97, 98, 99, 100, 101, 102, 103, 104, 105, 106, 107, 108, 109, 110, 111, 112, 113, 114, 115, 116, 117, 118, 119, 120, 121, 122, 48, 49, 50, 51, 52, 53, 54, 55, 56, 57, 45, 95, 58]⟩ : ByteArray).extract 0 26 ++ (⟨#[45, 95]⟩ : ByteArray) from rfl] at this
  rw [if_pos (by decide), if_pos (by decide), if_pos (by decide), this]
  rfl
def hasA (l : List S122) (nm : ByteArray) : Bool := l.any (fun x => x.f0.toList == nm.toList)
theorem find_has (l : List S122) (nm : ByteArray) (hl : l.length ≤ 1000000) : ∃ r, dom_find.f l nm = some r ∧ decide (r ≥ 0) = hasA l nm := by
  unfold dom_find.f
  rw [if_pos (by omega)]
  exact ⟨_, rfl, Cl.idxOf_any _ l⟩
theorem dropA (l : List S122) (i : Nat) (h : i < l.length) : l.drop i = q0e l (i : Int) :: l.drop (i + 1) := by
  rw [List.drop_eq_getElem_cons h]
  congr 1
  simp [q0e, List.getD, h]
theorem rdA (l : List S122) (i : Nat) (h : i < l.length) : q0e l (i : Int) = l[i] := by simp [q0e, List.getD, h]
theorem attrOf_l0 (l : List S122) (nm : ByteArray) (hl : l.length ≤ 1000000) (d : Nat) : ∀ (i k : Nat), i + d = l.length → d < k → ∃ v, clerestoryref1_AttrOf.l0 k l nm (i : Int) = some (v, (l.drop i).any (fun x => x.f0.toList == nm.toList)) := by
  induction d with
  | zero =>
    intro i k h hk
    obtain ⟨k, rfl⟩ : ∃ q, k = q + 1 := ⟨k - 1, by omega⟩
    rw [clerestoryref1_AttrOf.l0, if_neg (by omega), List.drop_eq_nil_of_le (by omega)]
    exact ⟨_, rfl⟩
  | succ d ih =>
    intro i k h hk
    obtain ⟨k, rfl⟩ : ∃ q, k = q + 1 := ⟨k - 1, by omega⟩
    obtain ⟨v, hv⟩ := ih (i + 1) k (by omega) (by omega)
    rw [clerestoryref1_AttrOf.l0, if_pos (by omega), if_pos (by omega), show wrap64 ((i : Int) + 1) = ((i + 1 : Nat) : Int) from by unfold wrap64; omega, dropA l i (by omega), List.any_cons, hv]
    by_cases hn : (q0e l (i : Int)).f0.toList = nm.toList
    · rw [if_pos hn]; exact ⟨(q0e l (i : Int)).f1, by simp [hn]⟩
    · rw [if_neg hn]; exact ⟨v, by simp [hn]⟩
theorem attrOf_has (l : List S122) (nm : ByteArray) (hl : l.length ≤ 1000000) (k : Nat) (hk : l.length < k) : ∃ v, clerestoryref1_AttrOf.f k l nm = some (v, hasA l nm) := by
  obtain ⟨v, h⟩ := attrOf_l0 l nm hl l.length 0 k (by omega) hk
  exact ⟨v, h⟩
def errA (l : List S122) : Nat → Nat → Int
  | 0, _ => 0
  | d + 1, i => if nameB (q0e l (i : Int)).f0 false = true then (if 400 < (q0e l (i : Int)).f1.size then 2 else if hasA (l.take i) (q0e l (i : Int)).f0 = true then 3 else errA l d (i + 1)) else 3
theorem errA_succ (l : List S122) (d i : Nat) : errA l (d + 1) i = if nameB (q0e l (i : Int)).f0 false = true then (if 400 < (q0e l (i : Int)).f1.size then 2 else if hasA (l.take i) (q0e l (i : Int)).f0 = true then 3 else errA l d (i + 1)) else 3 := rfl
def smallA (l : List S122) : Prop := ∀ x ∈ l, x.f0.size ≤ 140737488355328
theorem attrs_l0 (l : List S122) (hl : l.length ≤ 1000000) (hs : smallA l) (d : Nat) : ∀ (i k : Nat), i + d = l.length → d < k → dom_attrs.l0 k l l (l.length : Int) (i : Int) = some (errA l d i) := by
  induction d with
  | zero =>
    intro i k h hk
    obtain ⟨k, rfl⟩ : ∃ q, k = q + 1 := ⟨k - 1, by omega⟩
    rw [dom_attrs.l0, if_neg (by omega)]
    rfl
  | succ d ih =>
    intro i k h hk
    obtain ⟨k, rfl⟩ : ∃ q, k = q + 1 := ⟨k - 1, by omega⟩
    have hm : q0e l (i : Int) ∈ l := by rw [rdA l i (by omega)]; exact List.getElem_mem _
    obtain ⟨r, hr1, hr2⟩ := find_has (l.take i) (q0e l (i : Int)).f0 (by rw [List.length_take]; omega)
    rw [dom_attrs.l0, if_pos (by omega), if_pos (by omega), if_pos (by omega), attrName_eq _ (hs _ hm), show wrap64 ((i : Int) + 1) = ((i + 1 : Nat) : Int) from by unfold wrap64; omega, ih (i + 1) k (by omega) (by omega), show ((i : Int)).toNat = i from rfl, hr1]
    simp only [Option.bind_some]
    rw [errA_succ]
    cases nameB (q0e l (i : Int)).f0 false with
    | false => rw [if_neg (by decide), if_neg (by decide)]
    | true =>
      rw [if_pos rfl, if_pos rfl]
      by_cases h4 : 400 < (q0e l (i : Int)).f1.size
      · rw [if_pos (by omega), if_pos h4]
      · rw [if_neg (by omega), if_neg h4, if_pos (by omega), ← hr2]
        by_cases h5 : r ≥ 0
        · rw [if_pos h5, if_pos (decide_eq_true h5)]
        · rw [if_neg h5, if_neg (by simpa using h5)]
theorem attrs_eq (l : List S122) (hs : smallA l) (k : Nat) (hk : 12 < k) : dom_attrs.f k l = some (if 12 < l.length then 2 else errA l l.length 0) := by
  unfold dom_attrs.f
  by_cases h : 12 < l.length
  · rw [if_pos (by omega), if_pos h]
  · rw [if_neg (by omega), if_neg h]
    exact attrs_l0 l (by omega) hs l.length 0 k (by omega) (by omega)
def bareB (x : S43) : Bool := (decide (x.f0 = 2) || decide (x.f0 = 5) || decide (x.f1.toList = [])) && ((decide (x.f0 = 2) || decide (x.f2.length = 0)) && ((decide (x.f0 = 3) || decide (x.f0 = 4) || decide (x.f3.toList = [])) && (decide (x.f0 = 1) || decide (x.f0 = 2) || decide (x.f5.length = 0))))
theorem bare_eq (x : S43) (h1 : 1 ≤ x.f0) (h5 : x.f0 ≤ 5) : dom_bare.f x.f0 x.f1 x.f2 x.f3 x.f4 x.f5 = some (bareB x) := by
  obtain ⟨kind, name, attrs, text, parent, kids⟩ := x
  simp only at h1 h5 ⊢
  have hk : kind = 1 ∨ kind = 2 ∨ kind = 3 ∨ kind = 4 ∨ kind = 5 := by omega
  unfold dom_bare.f dom_parent.f bareB
  by_cases hn : name.toList = [] <;> by_cases ha : attrs.length = 0 <;> by_cases ht : text.toList = [] <;> by_cases hd : kids.length = 0 <;> rcases hk with rfl | rfl | rfl | rfl | rfl <;> simp [hn, ha, ht, hd]
def nodeE (x : S43) : Int :=
  if x.f0 < 1 ∨ 5 < x.f0 ∨ bareB x = false then 7 else if x.f0 = 2 ∧ nameB x.f1 true = false then 3 else if 12 < x.f2.length then 2 else if errA x.f2 x.f2.length 0 ≠ 0 then errA x.f2 x.f2.length 0 else if 400 < x.f3.size ∨ 400 < x.f1.size then 2 else 0
theorem j1_eq (x : S43) (hs : smallA x.f2) (k : Nat) (hk : 13 < k) : dom_one.j1 k x.f0 x.f1 x.f2 x.f3 x.f4 x.f5 = some (if 12 < x.f2.length then 2 else if errA x.f2 x.f2.length 0 ≠ 0 then errA x.f2 x.f2.length 0 else if 400 < x.f3.size ∨ 400 < x.f1.size then 2 else 0) := by
  obtain ⟨k, rfl⟩ : ∃ q, k = q + 1 := ⟨k - 1, by omega⟩
  rw [dom_one.j1, attrs_eq x.f2 hs k (by omega)]
  simp only [Option.bind_some]
  by_cases h : 12 < x.f2.length
  · rw [if_pos h, if_pos h, if_neg (by decide)]
  · rw [if_neg h, if_neg h]
    by_cases h2 : errA x.f2 x.f2.length 0 = 0
    · rw [if_pos h2, if_neg (show ¬ errA x.f2 x.f2.length 0 ≠ 0 from fun hh => hh h2)]
      by_cases h3 : 400 < x.f3.size
      · rw [if_pos (by omega), if_pos (.inl h3)]
      · rw [if_neg (by omega)]
        by_cases h4 : 400 < x.f1.size
        · rw [if_pos (by omega), if_pos (.inr h4)]
        · rw [if_neg (by omega), if_neg (by omega)]
    · rw [if_neg h2, if_pos h2]
theorem one_eq (x : S43) (hs : smallA x.f2) (hn : x.f1.size ≤ 140737488355328) (k : Nat) (hk : 14 < k) : dom_one.f k x.f0 x.f1 x.f2 x.f3 x.f4 x.f5 = some (nodeE x) := by
  obtain ⟨k, rfl⟩ : ∃ q, k = q + 1 := ⟨k - 1, by omega⟩
  have hj : ∀ b : Bool, dom_one.j0 (k + 1) b x.f0 x.f1 x.f2 x.f3 x.f4 x.f5 = some (if b = true then 7 else if x.f0 = 2 ∧ nameB x.f1 true = false then 3 else if 12 < x.f2.length then 2 else if errA x.f2 x.f2.length 0 ≠ 0 then errA x.f2 x.f2.length 0 else if 400 < x.f3.size ∨ 400 < x.f1.size then 2 else 0) := by
    intro b
    have hj1 := j1_eq x hs k (by omega)
    generalize (if 12 < x.f2.length then (2 : Int) else if errA x.f2 x.f2.length 0 ≠ 0 then errA x.f2 x.f2.length 0 else if 400 < x.f3.size ∨ 400 < x.f1.size then 2 else 0) = tl at hj1 ⊢
    rw [dom_one.j0, hj1, Name_eq x.f1 hn]
    simp only [Option.bind_some]
    cases b <;> by_cases h2 : x.f0 = 2 <;> cases nameB x.f1 true <;> simp [h2]
  unfold dom_one.f nodeE
  by_cases h1 : x.f0 < 1
  · rw [if_pos h1, hj]; simp [h1]
  · rw [if_neg h1]
    by_cases h5 : x.f0 > 5
    · rw [if_pos h5, hj]; simp [h5]
    · rw [if_neg h5, bare_eq x (by omega) (by omega)]
      simp only [Option.bind_some]
      rw [hj]
      have h5' : ¬ 5 < x.f0 := h5
      cases bareB x <;> simp [h1, h5']
theorem rn_l0 (x : S43) (hl : x.f2.length ≤ 1000) (d : Nat) : ∀ (i k : Nat), i + d = x.f2.length → d + 150 + x.f2.length < k → clerestoryref1_NodeErr.l0 k (i : Int) x.f0 x.f1 x.f2 x.f3 x.f4 x.f5 = some (if errA x.f2 d i ≠ 0 then errA x.f2 d i else if 400 < x.f3.size ∨ 400 < x.f1.size then 2 else 0) := by
  induction d with
  | zero =>
    intro i k h hk
    obtain ⟨k, rfl⟩ : ∃ q, k = q + 1 := ⟨k - 1, by omega⟩
    rw [clerestoryref1_NodeErr.l0, if_neg (by omega)]
    by_cases h3 : 400 < x.f3.size
    · rw [if_pos (by omega)]; simp [errA, h3]
    · rw [if_neg (by omega)]
      by_cases h4 : 400 < x.f1.size
      · rw [if_pos (by omega)]; simp [errA, h3, h4]
      · rw [if_neg (by omega)]; simp [errA, h3, h4]
  | succ d ih =>
    intro i k h hk
    obtain ⟨k, rfl⟩ : ∃ q, k = q + 1 := ⟨k - 1, by omega⟩
    obtain ⟨v, hv⟩ := attrOf_has (x.f2.take i) (q0e x.f2 (i : Int)).f0 (by rw [List.length_take]; omega) k (by rw [List.length_take]; omega)
    have hi := ih (i + 1) k (by omega) (by omega)
    rw [errA_succ]
    generalize (if 400 < x.f3.size ∨ 400 < x.f1.size then (2 : Int) else 0) = tl at hi ⊢
    rw [clerestoryref1_NodeErr.l0, if_pos (by omega), if_pos (by omega), refname_eq _ false k (by omega), show wrap64 ((i : Int) + 1) = ((i + 1 : Nat) : Int) from by unfold wrap64; omega, hi, show ((i : Int)).toNat = i from rfl, hv]
    simp only [Option.bind_some]
    have h4 : ((q0e x.f2 (i : Int)).f1.size : Int) > 400 ↔ 400 < (q0e x.f2 (i : Int)).f1.size := by omega
    have h5 : (i : Int) ≤ (x.f2.length : Int) := by omega
    simp only [h4, h5, if_true]
    cases nameB (q0e x.f2 (i : Int)).f0 false <;> by_cases h6 : 400 < (q0e x.f2 (i : Int)).f1.size <;> cases hasA (x.f2.take i) (q0e x.f2 (i : Int)).f0 <;> simp [h6]
theorem rn_j1 (x : S43) (b : Bool) (k : Nat) (hk : 1200 < k) : clerestoryref1_NodeErr.j1 k b x.f0 x.f1 x.f2 x.f3 x.f4 x.f5 = some (if b = true then 3 else if 12 < x.f2.length then 2 else if errA x.f2 x.f2.length 0 ≠ 0 then errA x.f2 x.f2.length 0 else if 400 < x.f3.size ∨ 400 < x.f1.size then 2 else 0) := by
  obtain ⟨k, rfl⟩ : ∃ q, k = q + 1 := ⟨k - 1, by omega⟩
  rw [clerestoryref1_NodeErr.j1]
  cases b with
  | true => rfl
  | false =>
    by_cases h : 12 < x.f2.length
    · have h' : (x.f2.length : Int) > 12 := by omega
      simp [h, h']
    · have h' : ¬ (x.f2.length : Int) > 12 := by omega
      have := rn_l0 x (by omega) x.f2.length 0 k (by omega) (by omega)
      rw [if_neg (by decide), if_neg h', if_neg (by decide), if_neg h]
      exact this
theorem rn_j0 (x : S43) (b : Bool) (k : Nat) (hk : 1201 < k) : clerestoryref1_NodeErr.j0 k b x.f0 x.f1 x.f2 x.f3 x.f4 x.f5 = some (if b = true then 7 else if x.f0 = 2 ∧ nameB x.f1 true = false then 3 else if 12 < x.f2.length then 2 else if errA x.f2 x.f2.length 0 ≠ 0 then errA x.f2 x.f2.length 0 else if 400 < x.f3.size ∨ 400 < x.f1.size then 2 else 0) := by
  obtain ⟨k, rfl⟩ : ∃ q, k = q + 1 := ⟨k - 1, by omega⟩
  have hj := fun b => rn_j1 x b k (by omega)
  generalize (if 12 < x.f2.length then (2 : Int) else if errA x.f2 x.f2.length 0 ≠ 0 then errA x.f2 x.f2.length 0 else if 400 < x.f3.size ∨ 400 < x.f1.size then 2 else 0) = tl at hj ⊢
  rw [clerestoryref1_NodeErr.j0, refname_eq _ true k (by omega)]
  simp only [Option.bind_some, hj]
  cases b <;> by_cases h2 : x.f0 = 2 <;> cases nameB x.f1 true <;> simp [h2]
theorem nodeErr_eq (x : S43) (k : Nat) (hk : 1201 < k) : clerestoryref1_NodeErr.f k x.f0 x.f1 x.f2 x.f3 x.f4 x.f5 = some (nodeE x) := by
  have hj := fun b => rn_j0 x b k hk
  unfold nodeE
  by_cases h1 : x.f0 < 1
  · unfold clerestoryref1_NodeErr.f clerestoryref1_between.f
    rw [if_neg (by omega)]; simp [h1]
  · by_cases h5 : 5 < x.f0
    · unfold clerestoryref1_NodeErr.f clerestoryref1_between.f
      rw [if_pos (by omega)]
      have : ¬ x.f0 ≤ 5 := by omega
      simp [h5, this]
    · have e : clerestoryref1_NodeErr.f k x.f0 x.f1 x.f2 x.f3 x.f4 x.f5 = clerestoryref1_NodeErr.j0 k (!bareB x) x.f0 x.f1 x.f2 x.f3 x.f4 x.f5 := by
        clear hj
        obtain ⟨kind, name, attrs, text, parent, kids⟩ := x
        simp only at h1 h5 ⊢
        have hk : kind = 1 ∨ kind = 2 ∨ kind = 3 ∨ kind = 4 ∨ kind = 5 := by omega
        unfold clerestoryref1_NodeErr.f clerestoryref1_between.f bareB
        have ea : (attrs.length : Int) > 0 ↔ ¬ attrs.length = 0 := by omega
        have ed : (kids.length : Int) > 0 ↔ ¬ kids.length = 0 := by omega
        simp only [ea, ed]
        by_cases hn : name.toList = [] <;> by_cases ha : attrs.length = 0 <;> by_cases ht : text.toList = [] <;> by_cases hd : kids.length = 0 <;> rcases hk with rfl | rfl | rfl | rfl | rfl <;> simp [hn, ha, ht, hd]
      rw [e, hj]
      cases bareB x <;> simp [h1, h5]
def par (ns : List S43) (n : Int) : Int := (q00 ns n).f4
def InR (ns : List S43) : Prop := ∀ i : Int, 0 ≤ i → i < ns.length → par ns i < ns.length
def q1e (ns : List S43) : Nat → Int → Nat
  | 0, _ => 0
  | d + 1, n => if par ns n ≥ 0 then 1 + q1e ns d (par ns n) else 0
theorem up_l0 (ns : List S43) (q : Bool) (hl : ns.length ≤ 1000) (hr : InR ns) (d : Nat) : ∀ (many : Nat) (n : Int) (k : Nat), many + d = ns.length + 1 → 0 ≤ n → n < ns.length → d < k →
    dom_up.l0 k n (many : Int) ns q = some ((many + q1e ns d n : Nat) : Int) := by
  induction d with
  | zero =>
    intro many n k h h0 h1 hk
    obtain ⟨k, rfl⟩ : ∃ z, k = z + 1 := ⟨k - 1, by omega⟩
    rw [dom_up.l0, if_pos h0, if_pos h1]
    by_cases hp : (q00 ns n).f4 ≥ 0
    · rw [if_pos hp, if_neg (by omega)]; rfl
    · rw [if_neg hp]; rfl
  | succ d ih =>
    intro many n k h h0 h1 hk
    obtain ⟨k, rfl⟩ : ∃ z, k = z + 1 := ⟨k - 1, by omega⟩
    rw [dom_up.l0, if_pos h0, if_pos h1]
    have hrn := hr n h0 h1
    unfold q1e
    by_cases hp : par ns n ≥ 0
    · have hp' : (q00 ns n).f4 ≥ 0 := hp
      rw [if_pos hp', if_pos (by omega), if_pos hp, show wrap64 ((many : Int) + 1) = ((many + 1 : Nat) : Int) from by unfold wrap64; omega, show (q00 ns n).f4 = par ns n from rfl, ih (many + 1) (par ns n) k (by omega) hp hrn (by omega)]
      congr 2
      omega
    · have hp' : ¬ (q00 ns n).f4 ≥ 0 := hp
      rw [if_neg hp', if_neg hp]; rfl
theorem deep_l0 (ns : List S43) (q : Bool) (hl : ns.length ≤ 1000) (hr : InR ns) (d : Nat) : ∀ (many : Nat) (n : Int) (k : Nat), many + d = ns.length → 0 ≤ n → n < ns.length → d < k →
    clerestoryref1_Deep.l0 k n (many : Int) ns q = some (if ns.length < many + q1e ns (d + 1) n then -1 else ((many + q1e ns (d + 1) n : Nat) : Int)) := by
  induction d with
  | zero =>
    intro many n k h h0 h1 hk
    obtain ⟨k, rfl⟩ : ∃ z, k = z + 1 := ⟨k - 1, by omega⟩
    rw [clerestoryref1_Deep.l0, if_pos h0, if_pos h1, show wrap64 ((many : Int) + 1) = ((many + 1 : Nat) : Int) from by unfold wrap64; omega]
    have e : q1e ns (0 + 1) n = if par ns n ≥ 0 then 1 + 0 else 0 := rfl
    rw [e]
    by_cases hp : par ns n ≥ 0
    · have hp' : (q00 ns n).f4 ≥ 0 := hp
      rw [if_pos hp', if_pos (by omega), if_pos hp, if_pos (by omega)]
    · have hp' : ¬ (q00 ns n).f4 ≥ 0 := hp
      rw [if_neg hp', if_neg hp, if_neg (by omega)]; rfl
  | succ d ih =>
    intro many n k h h0 h1 hk
    obtain ⟨k, rfl⟩ : ∃ z, k = z + 1 := ⟨k - 1, by omega⟩
    have hrn := hr n h0 h1
    rw [clerestoryref1_Deep.l0, if_pos h0, if_pos h1, show wrap64 ((many : Int) + 1) = ((many + 1 : Nat) : Int) from by unfold wrap64; omega]
    have e : q1e ns (d + 1 + 1) n = if par ns n ≥ 0 then 1 + q1e ns (d + 1) (par ns n) else 0 := rfl
    rw [e]
    by_cases hp : par ns n ≥ 0
    · have hp' : (q00 ns n).f4 ≥ 0 := hp
      rw [if_pos hp', if_neg (by omega), if_pos hp, show (q00 ns n).f4 = par ns n from rfl, ih (many + 1) (par ns n) k (by omega) hp hrn (by omega), show many + 1 + q1e ns (d + 1) (par ns n) = many + (1 + q1e ns (d + 1) (par ns n)) by omega]
    · have hp' : ¬ (q00 ns n).f4 ≥ 0 := hp
      rw [if_neg hp', if_neg hp, if_neg (by omega)]; rfl
theorem up_eq (ns : List S43) (q : Bool) (hl : ns.length ≤ 1000) (hr : InR ns) (n : Int) (h0 : 0 ≤ n) (h1 : n < ns.length) (k : Nat) (hk : ns.length + 1 < k) : dom_up.f k ns q n = some ((q1e ns (ns.length + 1) n : Nat) : Int) := by
  have := up_l0 ns q hl hr (ns.length + 1) 0 n k (by omega) h0 h1 hk
  rw [Nat.zero_add] at this
  exact this
theorem deep_eq (ns : List S43) (q : Bool) (hl : ns.length ≤ 1000) (hr : InR ns) (n : Int) (h0 : 0 ≤ n) (h1 : n < ns.length) (k : Nat) (hk : ns.length < k) : clerestoryref1_Deep.f k ns q n = some (if ns.length < q1e ns (ns.length + 1) n then -1 else ((q1e ns (ns.length + 1) n : Nat) : Int)) := by
  have := deep_l0 ns q hl hr ns.length 0 n k (by omega) h0 h1 hk
  rw [Nat.zero_add] at this
  exact this
def hasK (l : List Int) (x : Int) : Bool := l.any (fun y => decide (y = x))
theorem dropK (o : List Int) (i : Nat) (h : i < o.length) : o.drop i = rd o (i : Int) :: o.drop (i + 1) := by
  rw [List.drop_eq_getElem_cons h]
  congr 1
  simp [rd, List.getD, h]
theorem takeK (o : List Int) (i : Nat) (h : i < o.length) : o.take (i + 1) = o.take i ++ [rd o (i : Int)] := by
  rw [List.take_succ_eq_append_getElem h]
  congr 2
  simp [rd, List.getD, h]
theorem place_l0 (o : List Int) (x : Int) (ho : o.length ≤ 4611686018427387904) (d : Nat) : ∀ (i k : Nat), i + d = o.length → d < k → ∃ r, clerestoryref1_placeIn.l0 k o x (i : Int) = some r ∧ decide (r ≥ 0) = (o.drop i).any (fun y => decide (y = x)) := by
  induction d with
  | zero =>
    intro i k h hk
    obtain ⟨k, rfl⟩ : ∃ q, k = q + 1 := ⟨k - 1, by omega⟩
    rw [clerestoryref1_placeIn.l0, if_neg (by omega), List.drop_eq_nil_of_le (by omega)]
    exact ⟨_, rfl, rfl⟩
  | succ d ih =>
    intro i k h hk
    obtain ⟨k, rfl⟩ : ∃ q, k = q + 1 := ⟨k - 1, by omega⟩
    obtain ⟨r, hi, hd⟩ := ih (i + 1) k (by omega) (by omega)
    rw [clerestoryref1_placeIn.l0, if_pos (by omega), if_pos (by omega), show wrap64 ((i : Int) + 1) = ((i + 1 : Nat) : Int) from by unfold wrap64; omega, hi, dropK o i (by omega), List.any_cons]
    by_cases hx : rd o (i : Int) = x
    · rw [if_pos hx]; exact ⟨_, rfl, by simp [hx]⟩
    · rw [if_neg hx]; exact ⟨r, rfl, by simpa [hx] using hd⟩
theorem place_has (o : List Int) (x : Int) (ho : o.length ≤ 4611686018427387904) (k : Nat) (hk : o.length < k) : ∃ r, clerestoryref1_placeIn.f k o x = some r ∧ decide (r ≥ 0) = hasK o x := by
  obtain ⟨r, h1, h2⟩ := place_l0 o x ho o.length 0 k (by omega) hk
  exact ⟨r, h1, by rw [h2, List.drop_zero]; rfl⟩
def kidL (ns : List S43) (n : Int) : List Int := (q00 ns n).f5
def q19 (ns : List S43) (i : Int) (pre : List Int) (c : Int) : Bool := decide (c < 0) || (decide (c ≥ ns.length) || (decide (par ns c ≠ i) || hasK pre c))
def kidsE (ns : List S43) (i : Int) : List Int → List Int → Int
  | _, [] => 0
  | pre, c :: t => if q19 ns i pre c = true then 3 else if i = 0 ∧ (q00 ns c).f0 = 3 then 7 else kidsE ns i (pre ++ [c]) t
theorem kidsE_cons (ns : List S43) (i : Int) (pre : List Int) (c : Int) (t : List Int) : kidsE ns i pre (c :: t) = if q19 ns i pre c = true then 3 else if i = 0 ∧ (q00 ns c).f0 = 3 then 7 else kidsE ns i (pre ++ [c]) t := rfl
theorem kidBad_range {ns : List S43} {i : Int} {pre : List Int} {c : Int} (h : ¬ q19 ns i pre c = true) : 0 ≤ c ∧ c < ns.length ∧ par ns c = i ∧ hasK pre c = false := by
  unfold q19 at h
  simp only [Bool.or_eq_true, decide_eq_true_eq, not_or, Decidable.not_not, Bool.not_eq_true] at h
  exact ⟨by omega, by omega, h.2.2.1, h.2.2.2⟩
def orE (a b : Int) : Int := if a ≠ 0 then a else b
theorem orE_zero (b : Int) : orE 0 b = b := by simp [orE]
theorem orE_ne {a : Int} (b : Int) (h : a ≠ 0) : orE a b = a := by simp [orE, h]
theorem w1 (i : Nat) (h : i ≤ 4611686018427387904) : wrap64 ((i : Int) + 1) = ((i + 1 : Nat) : Int) := by unfold wrap64; omega
theorem wm (n : Nat) (h : n ≤ 4611686018427387904) : wrap64 ((n : Int) - 1) = (n : Int) - 1 := by unfold wrap64; omega
theorem ref_j4 (ns : List S43) (q : Bool) (i p : Nat) (c : Int) (pre t : List Int) (hp : p ≤ 4611686018427387903) (R : Int) (k : Nat)
    (hi : clerestoryref1_DocErr.l2 k (ns.length : Int) (i : Int) ((p + 1 : Nat) : Int) ns q = some (orE (kidsE ns (i : Int) (pre ++ [c]) t) R)) :
    clerestoryref1_DocErr.j4 (k + 1) (ns.length : Int) (i : Int) (p : Int) c (q19 ns (i : Int) pre c) ns q = some (orE (kidsE ns (i : Int) pre (c :: t)) R) := by
  rw [clerestoryref1_DocErr.j4, kidsE_cons]
  by_cases hb : q19 ns (i : Int) pre c = true
  · rw [if_pos hb, if_pos hb]; rfl
  · rw [if_neg hb, if_neg hb]
    have hr := kidBad_range hb
    by_cases h0 : (i : Int) = 0
    · rw [if_pos h0, if_pos hr.1, if_pos hr.2.1]
      by_cases h3 : (q00 ns c).f0 = 3
      · rw [if_pos h3, if_pos ⟨h0, h3⟩]; rfl
      · rw [if_neg h3, if_neg (fun h => h3 h.2), w1 p (by omega), hi]
    · rw [if_neg h0, if_neg (fun h => h0 h.1), w1 p (by omega), hi]
theorem refkids (ns : List S43) (q : Bool) (hl : ns.length ≤ 1000) (i : Nat) (hi : i < ns.length) (ks : List Int) (hks : (q00 ns (i : Int)).f5 = ks) (hc : ks.length ≤ 4611686018427387900) (B : Nat) (hB : ks.length < B) (R : Int)
    (H : ∀ k, B ≤ k → clerestoryref1_DocErr.l1 k (ns.length : Int) ((i + 1 : Nat) : Int) ns q = some R) (d : Nat) : ∀ (p k : Nat), p + d = ks.length → 2 * d + B < k →
    clerestoryref1_DocErr.l2 k (ns.length : Int) (i : Int) (p : Int) ns q = some (orE (kidsE ns (i : Int) (ks.take p) (ks.drop p)) R) := by
  induction d with
  | zero =>
    intro p k h hk
    obtain ⟨k, rfl⟩ : ∃ z, k = z + 1 := ⟨k - 1, by omega⟩
    rw [clerestoryref1_DocErr.l2, hks, if_pos (by omega), if_pos (by omega), if_neg (by omega), w1 i (by omega), H k (by omega), List.drop_eq_nil_of_le (by omega)]
    rfl
  | succ d ih =>
    intro p k h hk
    obtain ⟨k, rfl⟩ : ∃ z, k = z + 2 := ⟨k - 2, by omega⟩
    have hlt : p < ks.length := by omega
    have hi2 := ih (p + 1) k (by omega) (by omega)
    rw [takeK ks p hlt] at hi2
    obtain ⟨r, hr1, hr2⟩ := place_has (ks.take p) (rd ks (p : Int)) (by rw [List.length_take]; omega) (k + 1) (by rw [List.length_take]; omega)
    rw [clerestoryref1_DocErr.l2, hks, if_pos (by omega), if_pos (by omega), if_pos (by omega), if_pos (by omega), dropK ks p hlt, show ((p : Nat) : Int).toNat = p from rfl]
    obtain ⟨c, hcc⟩ : ∃ c, rd ks (p : Int) = c := ⟨_, rfl⟩
    rw [hcc] at hi2 hr1 ⊢
    rw [hcc] at hr2
    have hj : ∀ b, b = q19 ns (i : Int) (ks.take p) c → clerestoryref1_DocErr.j4 (k + 1) (ns.length : Int) (i : Int) (p : Int) c b ns q = some (orE (kidsE ns (i : Int) (ks.take p) (c :: ks.drop (p + 1))) R) := by
      rintro b rfl
      exact ref_j4 ns q i p c _ _ (by omega) R k hi2
    unfold clerestoryref1_between.f
    rw [wm ns.length (by omega)]
    by_cases c0 : c ≥ 0
    · rw [if_pos c0, Option.bind_some]
      by_cases c1 : c < (ns.length : Int)
      · rw [if_pos (decide_eq_true (by omega)), if_pos c0, if_pos c1]
        by_cases c2 : (q00 ns c).f4 = (i : Int)
        · rw [if_pos c2, if_pos (by omega), hr1, Option.bind_some]
          refine hj _ ?_
          rw [hr2]
          unfold q19 par
          rw [decide_eq_false (by omega), decide_eq_false (by omega), decide_eq_false (by simpa using c2)]
          simp
        · rw [if_neg c2]
          refine hj _ ?_
          unfold q19 par
          rw [decide_eq_true (p := (q00 ns c).f4 ≠ (i : Int)) c2]
          simp
      · rw [if_neg (by rw [decide_eq_false (by omega)]; exact Bool.false_ne_true)]
        refine hj _ ?_
        unfold q19
        rw [decide_eq_true (p := c ≥ (ns.length : Int)) (by omega)]
        simp
    · rw [if_neg c0, Option.bind_some, if_neg Bool.false_ne_true]
      refine hj _ ?_
      unfold q19
      rw [decide_eq_true (p := c < 0) (by omega)]
      simp
def kidsL (ns : List S43) : Nat → Nat → Int
  | 0, _ => 0
  | d + 1, i => orE (kidsE ns (i : Int) [] (kidL ns (i : Int))) (kidsL ns d (i + 1))
def parBad (ns : List S43) (i : Int) : Bool := decide (par ns i ≠ -1) && !(decide (0 ≤ par ns i) && (decide (par ns i < ns.length) && hasK (kidL ns (par ns i)) i))
def parsE (ns : List S43) : Nat → Nat → Int
  | 0, _ => if par ns 0 = -1 then 0 else 3
  | d + 1, i => if parBad ns (i : Int) = true then 3 else parsE ns d (i + 1)
def KidsLe (ns : List S43) (M : Nat) : Prop := ∀ i : Int, (kidL ns i).length ≤ M
theorem ref_l1 (ns : List S43) (q : Bool) (hl : ns.length ≤ 1000) (M : Nat) (hM : M ≤ 4611686018427387900) (hk : KidsLe ns M) (B : Nat) (hB : M < B) (R : Int)
    (H : ∀ k, B ≤ k → clerestoryref1_DocErr.l3 k (ns.length : Int) 0 ns q = some R) (d : Nat) : ∀ (i k : Nat), i + d = ns.length → (2 * M + 3) * d + B < k →
    clerestoryref1_DocErr.l1 k (ns.length : Int) (i : Int) ns q = some (orE (kidsL ns d i) R) := by
  induction d with
  | zero =>
    intro i k h hk
    obtain ⟨k, rfl⟩ : ∃ z, k = z + 1 := ⟨k - 1, by omega⟩
    rw [clerestoryref1_DocErr.l1, if_neg (by omega), H k (by omega)]
    rfl
  | succ d ih =>
    intro i k h hk'
    obtain ⟨k, rfl⟩ : ∃ z, k = z + 1 := ⟨k - 1, by omega⟩
    have e : (2 * M + 3) * (d + 1) = (2 * M + 3) * d + (2 * M + 3) := Nat.mul_succ _ _
    have hki := hk (i : Int)
    rw [clerestoryref1_DocErr.l1, if_pos (by omega)]
    have hr := refkids ns q hl i (by omega) (kidL ns (i : Int)) rfl (by omega) ((2 * M + 3) * d + B + 1) (by omega) (orE (kidsL ns d (i + 1)) R) (fun k hk => ih (i + 1) k (by omega) (by omega)) (kidL ns (i : Int)).length 0 k (by omega) (by omega)
    rw [List.take_zero, List.drop_zero] at hr
    rw [show ((0 : Nat) : Int) = 0 from rfl] at hr
    rw [hr]
    rw [show kidsL ns (d + 1) i = orE (kidsE ns (i : Int) [] (kidL ns (i : Int))) (kidsL ns d (i + 1)) from rfl]
    by_cases hz : kidsE ns (i : Int) [] (kidL ns (i : Int)) = 0
    · simp only [hz, orE_zero]
    · rw [orE_ne _ hz, orE_ne _ hz, orE_ne _ hz]
theorem ref_l3 (ns : List S43) (q : Bool) (hl : ns.length ≤ 1000) (h1 : 0 < ns.length) (M : Nat) (hM : M ≤ 4611686018427387900) (hk : KidsLe ns M) (B : Nat) (hB : M < B) (R : Int)
    (H : parsE ns ns.length 0 = 0 → ∀ k, B ≤ k → clerestoryref1_DocErr.l4 k (ns.length : Int) 0 ns q = some R) (d : Nat) : ∀ (i k : Nat), i + d = ns.length → parsE ns d i = parsE ns ns.length 0 → d + B < k →
    clerestoryref1_DocErr.l3 k (ns.length : Int) (i : Int) ns q = some (orE (parsE ns d i) R) := by
  induction d with
  | zero =>
    intro i k h hp hk
    obtain ⟨k, rfl⟩ : ∃ z, k = z + 1 := ⟨k - 1, by omega⟩
    rw [clerestoryref1_DocErr.l3, if_neg (by omega), if_pos (by omega)]
    by_cases c : (q00 ns 0).f4 = -1
    · have e : parsE ns 0 i = 0 := by unfold parsE par; rw [if_pos c]
      rw [if_pos c, e, orE_zero]
      exact H (by rw [← hp, e]) k (by omega)
    · have e : parsE ns 0 i = 3 := by unfold parsE par; rw [if_neg c]
      rw [if_neg c, e]
      rfl
  | succ d ih =>
    intro i k h hp hk'
    obtain ⟨k, rfl⟩ : ∃ z, k = z + 1 := ⟨k - 1, by omega⟩
    have e0 : parsE ns (d + 1) i = if parBad ns (i : Int) = true then 3 else parsE ns d (i + 1) := rfl
    rw [clerestoryref1_DocErr.l3, if_pos (by omega), if_pos (by omega), if_pos (by omega), w1 i (by omega), wm ns.length (by omega)]
    have good : parBad ns (i : Int) = false → clerestoryref1_DocErr.l3 k (ns.length : Int) ((i + 1 : Nat) : Int) ns q = some (orE (parsE ns (d + 1) i) R) := by
      intro hb
      rw [e0, if_neg (by rw [hb]; exact Bool.false_ne_true)] at hp ⊢
      exact ih (i + 1) k (by omega) hp (by omega)
    have bad : parBad ns (i : Int) = true → some (3 : Int) = some (orE (parsE ns (d + 1) i) R) := by
      intro hb
      rw [e0, if_pos hb]
      rfl
    show (if par ns (i : Int) = -1 then _ else _) = _
    by_cases c : par ns (i : Int) = -1
    · rw [if_pos c]
      exact good (by unfold parBad; rw [c]; rfl)
    · rw [if_neg c]
      unfold clerestoryref1_between.f
      show ((if par ns (i : Int) ≥ 0 then some (decide (par ns (i : Int) ≤ (ns.length : Int) - 1)) else some false).bind fun t143 => (if t143 = true then (if 0 ≤ par ns (i : Int) then (if par ns (i : Int) < (ns.length : Int) then ((clerestoryref1_placeIn.f k (kidL ns (par ns (i : Int))) (i : Int)).bind fun t145 => (if t145 < 0 then (some 3) else (clerestoryref1_DocErr.l3 k (ns.length : Int) ((i + 1 : Nat) : Int) ns q))) else (none)) else (none)) else (some 3))) = _
      by_cases c0 : par ns (i : Int) ≥ 0
      · rw [if_pos c0, Option.bind_some]
        by_cases c1 : par ns (i : Int) < (ns.length : Int)
        · rw [if_pos (decide_eq_true (by omega)), if_pos c0, if_pos c1]
          have hki := hk (par ns (i : Int))
          obtain ⟨r, hr1, hr2⟩ := place_has (kidL ns (par ns (i : Int))) (i : Int) (by omega) k (by omega)
          rw [hr1, Option.bind_some]
          have hpb : parBad ns (i : Int) = !(hasK (kidL ns (par ns (i : Int))) (i : Int)) := by
            unfold parBad
            rw [decide_eq_true c, decide_eq_true (p := 0 ≤ par ns (i : Int)) c0, decide_eq_true c1]
            simp
          by_cases c3 : r < 0
          · rw [if_pos c3]
            exact bad (by rw [hpb, ← hr2, decide_eq_false (by omega)]; rfl)
          · rw [if_neg c3]
            exact good (by rw [hpb, ← hr2, decide_eq_true (by omega)]; rfl)
        · rw [if_neg (by rw [decide_eq_false (by omega)]; exact Bool.false_ne_true)]
          exact bad (by unfold parBad; rw [decide_eq_true c, decide_eq_false c1]; simp)
      · rw [if_neg c0, Option.bind_some, if_neg Bool.false_ne_true]
        exact bad (by unfold parBad; rw [decide_eq_true c, decide_eq_false (p := 0 ≤ par ns (i : Int)) c0]; simp)
theorem seen_set (S : List Bool) (c x : Int) (hc : 0 ≤ c) (hc' : c < S.length) (hx : 0 ≤ x) : (rdOf false (S.set c.toNat true) x = true) ↔ (x = c ∨ rdOf false S x = true) := by
  unfold rdOf
  simp only [List.getD_eq_getElem?_getD, List.getElem?_set]
  by_cases h : x = c
  · subst h
    simp [show x.toNat < S.length by omega]
  · rw [if_neg (by omega)]
    simp [h]
theorem hasK_snoc (l : List Int) (c x : Int) : hasK (l ++ [c]) x = true ↔ (x = c ∨ hasK l x = true) := by
  unfold hasK
  simp only [List.any_append, List.any_cons, List.any_nil, Bool.or_false, Bool.or_eq_true, decide_eq_true_eq]
  constructor
  · rintro (h | h)
    · exact .inr h
    · exact .inl h.symm
  · rintro (h | h)
    · exact .inr h.symm
    · exact .inl h
def Ahead (ns : List S43) (i : Nat) : Prop := ∀ j : Nat, j < i → ∀ c, hasK (kidL ns (j : Int)) c = true → 0 ≤ c ∧ c < ns.length ∧ par ns c = (j : Int)
def Seen (ns : List S43) (S : List Bool) (i : Nat) (pre : List Int) : Prop := S.length = ns.length ∧ ∀ c : Int, 0 ≤ c → c < ns.length → (rdOf false S c = true ↔ ((∃ j : Nat, j < i ∧ hasK (kidL ns (j : Int)) c = true) ∨ hasK pre c = true))
theorem seen_same {ns : List S43} {S : List Bool} {i : Nat} {pre : List Int} (hs : Seen ns S i pre) (ha : Ahead ns i) {c : Int} (h0 : 0 ≤ c) (h1 : c < ns.length) (hp : par ns c = (i : Int)) : rdOf false S c = hasK pre c := by
  have h := hs.2 c h0 h1
  cases hb : hasK pre c
  · cases hr : rdOf false S c
    · rfl
    · exfalso
      rcases h.1 hr with ⟨j, hj, hk⟩ | hk
      · have := (ha j hj c hk).2.2
        omega
      · rw [hb] at hk
        cases hk
  · exact h.2 (.inr hb)
theorem kidsE_ok {ns : List S43} {i : Int} : ∀ {l pre : List Int}, kidsE ns i pre l = 0 → ∀ c ∈ l, 0 ≤ c ∧ c < ns.length ∧ par ns c = i
  | [], _, _, c, hc => by simp at hc
  | x :: t, pre, h, c, hc => by
    rw [kidsE_cons] at h
    by_cases hb : q19 ns i pre x = true
    · rw [if_pos hb] at h; cases h
    · rw [if_neg hb] at h
      have hr := kidBad_range hb
      by_cases h7 : i = 0 ∧ (q00 ns x).f0 = 3
      · rw [if_pos h7] at h; cases h
      · rw [if_neg h7] at h
        rcases List.mem_cons.1 hc with rfl | hc
        · exact ⟨hr.1, hr.2.1, hr.2.2.1⟩
        · exact kidsE_ok h c hc
theorem prog_j2 (ns : List S43) (q : Bool) (i p : Nat) (c : Int) (pre t ks : List Int) (S : List Bool) (hS : S.length = ns.length) (len : Int) (hp : p ≤ 4611686018427387903) (R : Int) (k : Nat)
    (hi : ¬ q19 ns (i : Int) pre c = true → ¬ ((i : Int) = 0 ∧ (q00 ns c).f0 = 3) → dom_kids.l1 k (S.set c.toNat true) (i : Int) ns (ns.length : Int) (i : Int) ks len ((p + 1 : Nat) : Int) ns q = some (orE (kidsE ns (i : Int) (pre ++ [c]) t) R)) :
    dom_kids.j2 (k + 1) S (i : Int) c ns (ns.length : Int) (i : Int) ks len (p : Int) (q19 ns (i : Int) pre c) ns q = some (orE (kidsE ns (i : Int) pre (c :: t)) R) := by
  rw [dom_kids.j2, kidsE_cons]
  by_cases hb : q19 ns (i : Int) pre c = true
  · rw [if_pos hb, if_pos hb]; rfl
  · rw [if_neg hb, if_neg hb]
    have hr := kidBad_range hb
    by_cases h0 : (i : Int) = 0
    · rw [if_pos h0, if_pos hr.1, if_pos hr.2.1]
      by_cases h3 : (q00 ns c).f0 = 3
      · rw [if_pos h3, if_pos ⟨h0, h3⟩]; rfl
      · rw [if_neg h3, if_pos (by rw [hS]; exact hr.2.1), if_neg (fun h => h3 h.2), w1 p (by omega), hi hb (fun h => h3 h.2)]
    · rw [if_neg h0, if_pos hr.1, if_pos (by rw [hS]; exact hr.2.1), if_neg (fun h => h0 h.1), w1 p (by omega), hi hb (fun h => h0 h.1)]
theorem prog_l1 (ns : List S43) (q : Bool) (hl : ns.length ≤ 1000) (i : Nat) (hi : i < ns.length) (ha : Ahead ns i) (ks : List Int) (hks : kidL ns (i : Int) = ks) (hc : ks.length ≤ 4611686018427387900) (B : Nat) (R : Int)
    (H : kidsE ns (i : Int) [] ks = 0 → ∀ S, Seen ns S (i + 1) [] → ∀ k, B ≤ k → dom_kids.l0 k S ns (ns.length : Int) ((i + 1 : Nat) : Int) ns q = some R) (d : Nat) : ∀ (p k : Nat) (S : List Bool), p + d = ks.length → Seen ns S i (ks.take p) →
    kidsE ns (i : Int) (ks.take p) (ks.drop p) = kidsE ns (i : Int) [] ks → 2 * d + B < k →
    dom_kids.l1 k S (i : Int) ns (ns.length : Int) (i : Int) ks (ks.length : Int) (p : Int) ns q = some (orE (kidsE ns (i : Int) (ks.take p) (ks.drop p)) R) := by
  induction d with
  | zero =>
    intro p k S h hs he hk
    obtain ⟨k, rfl⟩ : ∃ z, k = z + 1 := ⟨k - 1, by omega⟩
    rw [List.drop_eq_nil_of_le (by omega)] at he
    have he0 : kidsE ns (i : Int) [] ks = 0 := he.symm
    rw [List.take_of_length_le (by omega)] at hs
    rw [dom_kids.l1, if_neg (by omega), w1 i (by omega), List.drop_eq_nil_of_le (by omega)]
    refine (H he0 S ⟨hs.1, fun c h0 h1 => (hs.2 c h0 h1).trans ⟨?_, ?_⟩⟩ k (by omega)).trans rfl
    · rintro (⟨j, hj, hb⟩ | hb)
      · exact .inl ⟨j, by omega, hb⟩
      · exact .inl ⟨i, by omega, by rw [hks]; exact hb⟩
    · rintro (⟨j, hj, hb⟩ | hb)
      · by_cases e : j = i
        · subst e
          rw [hks] at hb
          exact .inr hb
        · exact .inl ⟨j, by omega, hb⟩
      · cases hb
  | succ d ih =>
    intro p k S h hs he hk
    obtain ⟨k, rfl⟩ : ∃ z, k = z + 2 := ⟨k - 2, by omega⟩
    have hlt : p < ks.length := by omega
    rw [dom_kids.l1, if_pos (by omega), if_pos (by omega), if_pos (by omega), dropK ks p hlt]
    rw [dropK ks p hlt] at he
    have ih' := ih (p + 1) k
    rw [takeK ks p hlt] at ih'
    obtain ⟨c, hcc⟩ : ∃ c, rd ks (p : Int) = c := ⟨_, rfl⟩
    rw [hcc] at ih' he ⊢
    have hj : ∀ b, b = q19 ns (i : Int) (ks.take p) c → dom_kids.j2 (k + 1) S (i : Int) c ns (ns.length : Int) (i : Int) ks (ks.length : Int) (p : Int) b ns q = some (orE (kidsE ns (i : Int) (ks.take p) (c :: ks.drop (p + 1))) R) := by
      rintro b rfl
      refine prog_j2 ns q i p c _ _ ks S hs.1 _ (by omega) R k fun hb h7 => ?_
      have hr := kidBad_range hb
      refine ih' (S.set c.toNat true) (by omega) ⟨by rw [List.length_set]; exact hs.1, fun x h0 h1 => ?_⟩ ?_ (by omega)
      · rw [seen_set S c x hr.1 (by rw [hs.1]; exact hr.2.1) h0, hs.2 x h0 h1, hasK_snoc]
        constructor
        · rintro (hx | hx | hx)
          · exact .inr (.inl hx)
          · exact .inl hx
          · exact .inr (.inr hx)
        · rintro (hx | hx | hx)
          · exact .inr (.inl hx)
          · exact .inl hx
          · exact .inr (.inr hx)
      · rw [kidsE_cons, if_neg hb, if_neg h7] at he
        exact he
    by_cases c0 : c < 0
    · rw [if_pos c0]
      refine hj _ ?_
      unfold q19
      rw [decide_eq_true c0]
      simp
    rw [if_neg c0]
    by_cases c1 : c ≥ (ns.length : Int)
    · rw [if_pos (by rw [hs.1]; exact c1)]
      refine hj _ ?_
      unfold q19
      rw [decide_eq_true c1]
      simp
    rw [if_neg (by rw [hs.1]; exact c1), if_pos (by omega), if_pos (by omega)]
    by_cases c2 : (q00 ns c).f4 = (i : Int)
    · rw [if_pos c2, if_pos (by rw [hs.1]; omega)]
      refine hj _ ?_
      rw [seen_same hs ha (by omega) (by omega) c2]
      unfold q19 par
      rw [decide_eq_false c0, decide_eq_false c1, decide_eq_false (by simpa using c2)]
      simp
    · rw [if_neg c2]
      refine hj _ ?_
      unfold q19 par
      rw [decide_eq_true (p := (q00 ns c).f4 ≠ (i : Int)) c2]
      simp
theorem prog_l2 (ns : List S43) (q : Bool) (hl : ns.length ≤ 1000) (h1 : 0 < ns.length) (ha : Ahead ns ns.length) (S : List Bool) (hs : Seen ns S ns.length []) (d : Nat) : ∀ (i k : Nat), i + d = ns.length → d < k →
    dom_kids.l2 k S ns (ns.length : Int) (i : Int) ns q = some (parsE ns d i) := by
  induction d with
  | zero =>
    intro i k h hk
    obtain ⟨k, rfl⟩ : ∃ z, k = z + 1 := ⟨k - 1, by omega⟩
    rw [dom_kids.l2, if_neg (by omega), if_pos (by omega)]
    unfold parsE par
    split <;> rfl
  | succ d ih =>
    intro i k h hk
    obtain ⟨k, rfl⟩ : ∃ z, k = z + 1 := ⟨k - 1, by omega⟩
    rw [dom_kids.l2, if_pos (by omega), if_pos (by omega), if_pos (by omega), w1 i (by omega), ih (i + 1) k (by omega) (by omega)]
    rw [show parsE ns (d + 1) i = if parBad ns (i : Int) = true then 3 else parsE ns d (i + 1) from rfl]
    show (if par ns (i : Int) = -1 then _ else _) = _
    by_cases c : par ns (i : Int) = -1
    · rw [if_pos c, if_neg (by unfold parBad; rw [c]; simp)]
    · rw [if_neg c, if_pos (by rw [hs.1]; omega)]
      have hh := hs.2 (i : Int) (by omega) (by omega)
      by_cases hr : rdOf false S (i : Int) = true
      · rw [if_pos hr]
        rcases hh.1 hr with ⟨j, hj, hk⟩ | hk
        · have hp := (ha j hj (i : Int) hk).2.2
          rw [if_neg]
          unfold parBad
          rw [hp, hk, decide_eq_true (p := 0 ≤ ((j : Nat) : Int)) (by omega), decide_eq_true (p := ((j : Nat) : Int) < (ns.length : Int)) (by omega)]
          simp
        · cases hk
      · rw [if_neg hr, if_pos]
        unfold parBad
        rw [decide_eq_true c, Bool.true_and]
        by_cases c0 : 0 ≤ par ns (i : Int)
        · by_cases c1 : par ns (i : Int) < (ns.length : Int)
          · cases hb : hasK (kidL ns (par ns (i : Int))) (i : Int)
            · simp
            · exfalso
              refine hr (hh.2 (.inl ⟨(par ns (i : Int)).toNat, by omega, ?_⟩))
              rw [show (((par ns (i : Int)).toNat : Nat) : Int) = par ns (i : Int) by omega]
              exact hb
          · rw [decide_eq_false c1]; simp
        · rw [decide_eq_false c0]; simp
theorem prog_l0 (ns : List S43) (q : Bool) (hl : ns.length ≤ 1000) (h1 : 0 < ns.length) (M : Nat) (hM : M ≤ 4611686018427387900) (hk : KidsLe ns M) (d : Nat) : ∀ (i k : Nat) (S : List Bool), i + d = ns.length → Seen ns S i [] → Ahead ns i → (2 * M + 3) * d + ns.length + 1 < k →
    dom_kids.l0 k S ns (ns.length : Int) (i : Int) ns q = some (orE (kidsL ns d i) (parsE ns ns.length 0)) := by
  induction d with
  | zero =>
    intro i k S h hs ha hk
    obtain ⟨k, rfl⟩ : ∃ z, k = z + 1 := ⟨k - 1, by omega⟩
    obtain rfl : i = ns.length := by omega
    rw [dom_kids.l0, if_neg (by omega)]
    exact prog_l2 ns q hl h1 ha S hs ns.length 0 k (by omega) (by omega)
  | succ d ih =>
    intro i k S h hs ha hk'
    obtain ⟨k, rfl⟩ : ∃ z, k = z + 1 := ⟨k - 1, by omega⟩
    have e : (2 * M + 3) * (d + 1) = (2 * M + 3) * d + (2 * M + 3) := Nat.mul_succ _ _
    have hki := hk (i : Int)
    rw [dom_kids.l0, if_pos (by omega), if_pos (by omega), if_pos (by omega)]
    have hr := prog_l1 ns q hl i (by omega) ha (kidL ns (i : Int)) rfl (by omega) ((2 * M + 3) * d + ns.length + 2) (orE (kidsL ns d (i + 1)) (parsE ns ns.length 0)) (fun he S hs k hk => ih (i + 1) k S (by omega) hs (fun j hj c hc => by
        by_cases e : j = i
        · subst e
          unfold hasK at hc
          obtain ⟨y, hy, hyc⟩ := List.any_eq_true.1 hc
          obtain rfl := of_decide_eq_true hyc
          exact kidsE_ok he y hy
        · exact ha j (by omega) c hc) (by omega)) (kidL ns (i : Int)).length 0 k S (by omega) hs rfl (by omega)
    rw [List.take_zero, List.drop_zero, show ((0 : Nat) : Int) = 0 from rfl] at hr
    refine hr.trans ?_
    rw [show kidsL ns (d + 1) i = orE (kidsE ns (i : Int) [] (kidL ns (i : Int))) (kidsL ns d (i + 1)) from rfl]
    by_cases hz : kidsE ns (i : Int) [] (kidL ns (i : Int)) = 0
    · simp only [hz, orE_zero]
    · rw [orE_ne _ hz, orE_ne _ hz, orE_ne _ hz]
def kidsAll (ns : List S43) : Int := orE (kidsL ns ns.length 0) (parsE ns ns.length 0)
theorem kids_eq (ns : List S43) (q : Bool) (hl : ns.length ≤ 1000) (h1 : 0 < ns.length) (M : Nat) (hM : M ≤ 4611686018427387900) (hk : KidsLe ns M) (k : Nat) (hk' : (2 * M + 3) * ns.length + ns.length + 1 < k) :
    dom_kids.f k ns q = some (kidsAll ns) := by
  unfold dom_kids.f
  rw [if_pos (by omega), if_pos (by omega)]
  refine (prog_l0 ns q hl h1 M hM hk ns.length 0 k _ (by omega) ⟨by simp, fun c h0 h1 => ?_⟩ (fun j hj => by omega) hk').trans rfl
  have e : rdOf false (List.replicate ((ns.length : Int) : Int).toNat false) c = false := by
    unfold rdOf
    simp [List.getD_eq_getElem?_getD, List.getElem?_replicate]
    split <;> rfl
  rw [e]
  constructor
  · intro h; cases h
  · rintro (⟨j, hj, _⟩ | h)
    · omega
    · cases h
def rootBad (ns : List S43) (i : Nat) : Bool := decide ((q00 ns (i : Int)).f0 = 1) != decide (i = 0)
def nodesE (ns : List S43) : Nat → Nat → Int
  | 0, _ => 0
  | d + 1, i => if rootBad ns i = true then 3 else orE (nodeE (q00 ns (i : Int))) (nodesE ns d (i + 1))
theorem nodesE_succ (ns : List S43) (d i : Nat) : nodesE ns (d + 1) i = if rootBad ns i = true then 3 else orE (nodeE (q00 ns (i : Int))) (nodesE ns d (i + 1)) := rfl
def q15 (ns : List S43) (i : Int) : Nat := q1e ns (ns.length + 1) i
def upsE (ns : List S43) : Nat → Nat → Int
  | 0, _ => 0
  | d + 1, i => if ns.length < q15 ns (i : Int) then 8 else if 40 < q15 ns (i : Int) then 2 else upsE ns d (i + 1)
theorem upsE_succ (ns : List S43) (d i : Nat) : upsE ns (d + 1) i = if ns.length < q15 ns (i : Int) then 8 else if 40 < q15 ns (i : Int) then 2 else upsE ns d (i + 1) := rfl
def docE (ns : List S43) : Int :=
  if 200 < ns.length then 2 else if ns.length = 0 then 3 else orE (nodesE ns ns.length 0) (orE (kidsAll ns) (upsE ns ns.length 0))
def SmallN (ns : List S43) : Prop := ∀ i : Int, smallA (q00 ns i).f2 ∧ (q00 ns i).f1.size ≤ 140737488355328
theorem parsE_ok {ns : List S43} : ∀ {d i : Nat}, parsE ns d i = 0 → par ns 0 = -1 ∧ ∀ j : Nat, i ≤ j → j < i + d → parBad ns (j : Int) = false
  | 0, i, h => by
    unfold parsE at h
    by_cases c : par ns 0 = -1
    · exact ⟨c, fun j h1 h2 => by omega⟩
    · rw [if_neg c] at h; cases h
  | d + 1, i, h => by
    rw [show parsE ns (d + 1) i = if parBad ns (i : Int) = true then 3 else parsE ns d (i + 1) from rfl] at h
    by_cases c : parBad ns (i : Int) = true
    · rw [if_pos c] at h; cases h
    · rw [if_neg c] at h
      obtain ⟨h1, h2⟩ := parsE_ok h
      refine ⟨h1, fun j h3 h4 => ?_⟩
      by_cases e : j = i
      · subst e; simpa using c
      · exact h2 j (by omega) (by omega)
theorem orE_eq_zero {a b : Int} (h : orE a b = 0) : a = 0 ∧ b = 0 := by
  unfold orE at h
  by_cases c : a = 0
  · simp [c] at h; exact ⟨c, h⟩
  · rw [if_pos c] at h; exact absurd h c
theorem parBad_ok {ns : List S43} {i : Int} (h : parBad ns i = false) : par ns i = -1 ∨ (0 ≤ par ns i ∧ par ns i < ns.length ∧ hasK (kidL ns (par ns i)) i = true) := by
  unfold parBad at h
  by_cases c : par ns i = -1
  · exact .inl c
  · right
    simp [c] at h
    exact ⟨h.1, h.2.1, h.2.2⟩
theorem inR_of {ns : List S43} (h : parsE ns ns.length 0 = 0) : InR ns := by
  intro i h0 h1
  have := (parsE_ok h).2 i.toNat (Nat.zero_le _) (by omega)
  rw [show ((i.toNat : Nat) : Int) = i by omega] at this
  rcases parBad_ok this with h | h
  · omega
  · exact h.2.1
theorem prog_ups (ns : List S43) (q : Bool) (hl : ns.length ≤ 1000) (hr : InR ns) (d : Nat) : ∀ (i k : Nat), i + d = ns.length → d + ns.length + 2 < k → dom_Check.l1 k (ns.length : Int) (i : Int) ns q = some (upsE ns d i) := by
  induction d with
  | zero =>
    intro i k h hk
    obtain ⟨k, rfl⟩ : ∃ z, k = z + 1 := ⟨k - 1, by omega⟩
    rw [dom_Check.l1, if_neg (by omega)]
    rfl
  | succ d ih =>
    intro i k h hk
    obtain ⟨k, rfl⟩ : ∃ z, k = z + 1 := ⟨k - 1, by omega⟩
    rw [dom_Check.l1, if_pos (by omega), up_eq ns q hl hr (i : Int) (by omega) (by omega) k (by omega), Option.bind_some, w1 i (by omega), ih (i + 1) k (by omega) (by omega), upsE_succ]
    unfold q15
    by_cases c : ns.length < q1e ns (ns.length + 1) (i : Int)
    · rw [if_pos (by omega), if_pos c]
    · rw [if_neg (by omega), if_neg c]
      by_cases c' : 40 < q1e ns (ns.length + 1) (i : Int)
      · rw [if_pos (by omega), if_pos c']
      · rw [if_neg (by omega), if_neg c']
theorem ref_ups (ns : List S43) (q : Bool) (hl : ns.length ≤ 1000) (hr : InR ns) (d : Nat) : ∀ (i k : Nat), i + d = ns.length → d + ns.length + 2 < k → clerestoryref1_DocErr.l4 k (ns.length : Int) (i : Int) ns q = some (upsE ns d i) := by
  induction d with
  | zero =>
    intro i k h hk
    obtain ⟨k, rfl⟩ : ∃ z, k = z + 1 := ⟨k - 1, by omega⟩
    rw [clerestoryref1_DocErr.l4, if_neg (by omega)]
    rfl
  | succ d ih =>
    intro i k h hk
    obtain ⟨k, rfl⟩ : ∃ z, k = z + 1 := ⟨k - 1, by omega⟩
    rw [clerestoryref1_DocErr.l4, if_pos (by omega), deep_eq ns q hl hr (i : Int) (by omega) (by omega) k (by omega), Option.bind_some, w1 i (by omega), ih (i + 1) k (by omega) (by omega), upsE_succ]
    unfold q15
    by_cases c : ns.length < q1e ns (ns.length + 1) (i : Int)
    · rw [if_pos c, if_pos c, if_pos (by omega)]
    · rw [if_neg c, if_neg c, if_neg (by omega)]
      by_cases c' : 40 < q1e ns (ns.length + 1) (i : Int)
      · rw [if_pos (by omega), if_pos c']
      · rw [if_neg (by omega), if_neg c']
def rounds (ns : List S43) (M : Nat) : Nat := (2 * M + 3) * ns.length + 3 * ns.length + M + 1300
theorem prog_nodes (ns : List S43) (q : Bool) (hl : ns.length ≤ 200) (h1 : 0 < ns.length) (hs : SmallN ns) (M : Nat) (hM : M ≤ 4611686018427387900) (hk : KidsLe ns M) (d : Nat) : ∀ (i k : Nat), i + d = ns.length → d + rounds ns M < k →
    dom_Check.l0 k ns (ns.length : Int) (i : Int) ns q = some (orE (nodesE ns d i) (orE (kidsAll ns) (upsE ns ns.length 0))) := by
  induction d with
  | zero =>
    intro i k h hk'
    obtain ⟨k, rfl⟩ : ∃ z, k = z + 1 := ⟨k - 1, by omega⟩
    unfold rounds at hk'
    rw [dom_Check.l0, if_neg (by omega), kids_eq ns q (by omega) h1 M hM hk k (by omega), Option.bind_some]
    show _ = some (orE 0 _)
    rw [orE_zero]
    by_cases c : kidsAll ns = 0
    · rw [if_pos c, c, orE_zero]
      have hr : InR ns := inR_of (orE_eq_zero c).2
      exact prog_ups ns q (by omega) hr ns.length 0 k (by omega) (by omega)
    · rw [if_neg c, orE_ne _ c]
  | succ d ih =>
    intro i k h hk'
    obtain ⟨k, rfl⟩ : ∃ z, k = z + 1 := ⟨k - 1, by omega⟩
    have hrd : 1300 ≤ rounds ns M := by unfold rounds; omega
    rw [dom_Check.l0, if_pos (by omega), if_pos (by omega), if_pos (by omega), w1 i (by omega), ih (i + 1) k (by omega) (by omega), nodesE_succ]
    obtain ⟨x, hx⟩ : ∃ x, q00 ns (i : Int) = x := ⟨_, rfl⟩
    have hsx := hs (i : Int)
    rw [hx] at hsx
    have eb : (((q00 ns (i : Int)).f0 == 1) != ((i : Int) == 0)) = rootBad ns i := by
      unfold rootBad
      rw [show ((q00 ns (i : Int)).f0 == 1) = decide ((q00 ns (i : Int)).f0 = 1) from rfl]
      congr 1
      rw [Bool.eq_iff_iff]
      simp
    rw [eb, hx]
    by_cases c : rootBad ns i = true
    · rw [if_pos c, if_pos c]; rfl
    · rw [if_neg c, if_neg c, one_eq x hsx.1 hsx.2 k (by omega), Option.bind_some]
      by_cases c2 : nodeE x = 0
      · rw [if_pos c2, c2, orE_zero]
      · rw [if_neg c2, orE_ne _ c2, orE_ne _ c2]
theorem ref_nodes (ns : List S43) (q : Bool) (hl : ns.length ≤ 200) (h1 : 0 < ns.length) (M : Nat) (hM : M ≤ 4611686018427387900) (hk : KidsLe ns M) (d : Nat) : ∀ (i k : Nat), i + d = ns.length → 2 * d + rounds ns M < k →
    clerestoryref1_DocErr.l0 k (ns.length : Int) (i : Int) ns q = some (orE (nodesE ns d i) (orE (kidsAll ns) (upsE ns ns.length 0))) := by
  induction d with
  | zero =>
    intro i k h hk'
    obtain ⟨k, rfl⟩ : ∃ z, k = z + 1 := ⟨k - 1, by omega⟩
    unfold rounds at hk'
    rw [clerestoryref1_DocErr.l0, if_neg (by omega)]
    show _ = some (orE 0 _)
    rw [orE_zero]
    have h3 := ref_l3 ns q (by omega) h1 M hM hk (M + 2 * ns.length + 3) (by omega) (upsE ns ns.length 0) (fun hz k hk => ref_ups ns q (by omega) (inR_of hz) ns.length 0 k (by omega) (by omega)) ns.length 0
    have h2 := ref_l1 ns q (by omega) M hM hk (M + 3 * ns.length + 4) (by omega) (orE (parsE ns ns.length 0) (upsE ns ns.length 0)) (fun k hk => h3 k (by omega) rfl (by omega)) ns.length 0 k (by omega) (by omega)
    refine h2.trans ?_
    unfold kidsAll
    by_cases c : kidsL ns ns.length 0 = 0
    · rw [c, orE_zero, orE_zero]
    · rw [orE_ne _ c, orE_ne _ c, orE_ne _ c]
  | succ d ih =>
    intro i k h hk'
    obtain ⟨k, rfl⟩ : ∃ z, k = z + 2 := ⟨k - 2, by omega⟩
    have hrd : 1300 ≤ rounds ns M := by unfold rounds; omega
    obtain ⟨x, hx⟩ : ∃ x, q00 ns (i : Int) = x := ⟨_, rfl⟩
    have hj : clerestoryref1_DocErr.j1 (k + 1) (ns.length : Int) (i : Int) (rootBad ns i) ns q = some (orE (nodesE ns (d + 1) i) (orE (kidsAll ns) (upsE ns ns.length 0))) := by
      rw [clerestoryref1_DocErr.j1, nodesE_succ, hx]
      by_cases c : rootBad ns i = true
      · rw [if_pos c, if_pos c]; rfl
      · rw [if_neg c, if_neg c, if_pos (by omega), if_pos (by omega), w1 i (by omega), ih (i + 1) k (by omega) (by omega), nodeErr_eq x k (by omega), Option.bind_some]
        by_cases c2 : nodeE x = 0
        · rw [if_pos c2, c2, orE_zero]
        · rw [if_neg c2, orE_ne _ c2, orE_ne _ c2]
    rw [clerestoryref1_DocErr.l0, if_pos (by omega)]
    have eb : (((q00 ns (i : Int)).f0) == 1) = decide ((q00 ns (i : Int)).f0 = 1) := rfl
    by_cases c0 : i = 0
    · rw [if_pos (by omega), if_pos (by omega), if_pos (by omega)]
      have er : rootBad ns i = !decide ((q00 ns (i : Int)).f0 = 1) := by unfold rootBad; rw [decide_eq_true c0]; simp
      by_cases c1 : (q00 ns (i : Int)).f0 = 1
      · rw [if_pos c1, if_neg (by omega)]
        rw [er, decide_eq_true c1] at hj
        exact hj
      · rw [if_neg c1]
        rw [er, decide_eq_false c1] at hj
        exact hj
    · rw [if_neg (by omega), if_pos (by omega), if_pos (by omega), if_pos (by omega)]
      have er : rootBad ns i = decide ((q00 ns (i : Int)).f0 = 1) := by unfold rootBad; rw [decide_eq_false c0]; simp
      rw [eb, ← er]
      exact hj
theorem check_eq (ns : List S43) (q : Bool) (hs : SmallN ns) (M : Nat) (hM : M ≤ 4611686018427387900) (hk : KidsLe ns M) (k : Nat) (hk' : 2 * ns.length + rounds ns M < k) : dom_Check.f k ns q = some (docE ns) := by
  unfold dom_Check.f docE
  by_cases c : 200 < ns.length
  · rw [if_pos (by omega), if_pos c]
  · rw [if_neg (by omega), if_neg c]
    by_cases c0 : ns.length = 0
    · rw [if_pos (by omega), if_pos c0]
    · rw [if_neg (by omega), if_neg c0]
      exact prog_nodes ns q (by omega) (by omega) hs M hM hk ns.length 0 k (by omega) (by omega)
theorem docErr_eq (ns : List S43) (q : Bool) (M : Nat) (hM : M ≤ 4611686018427387900) (hk : KidsLe ns M) (k : Nat) (hk' : 2 * ns.length + rounds ns M < k) : clerestoryref1_DocErr.f k ns q = some (docE ns) := by
  unfold clerestoryref1_DocErr.f docE
  by_cases c : 200 < ns.length
  · rw [if_pos (by omega), if_pos c]
  · rw [if_neg (by omega), if_neg c]
    by_cases c0 : ns.length = 0
    · rw [if_pos (by omega), if_pos c0]
    · rw [if_neg (by omega), if_neg c0]
      exact ref_nodes ns q (by omega) (by omega) M hM hk ns.length 0 k (by omega) (by omega)
end Go.Proofs.YthjnallbbhnndaaDoor.Dm
namespace Go.Proofs.YthjnallbbhnndaaDoor.Rd
open Go.ChangeShapes Go.WideShapes Go.ChangeAt Go.RowKit Go.Proofs.YthjnallbbhnndaaDoorW.PrintWords
def Reads {α : Type} (P : Program) (t : TypeId) (k : Kd α) (Q : α → Prop) : Prop :=
  P.cellsOf t = k.sz ∧ ∀ (H : Type) (enc : TypeId × Value → H) (w : World) (fuel : Nat) (cs : List Value) (x : DataW H × List MemPlace),
    DataW.trod enc P w 0 (fun _ => true) true fuel t cs = some x → (∀ n ∈ x.1.weights P t, n ≤ reachBytes) → ∃ a : α, k.K w a cs ∧ Q a
variable {P : Program} {t : TypeId}
theorem Reads.imp {α : Type} {k : Kd α} {Q Q' : α → Prop} (h : Reads P t k Q) (hq : ∀ a, Q a → Q' a) : Reads P t k Q' := by
  refine ⟨h.1, fun H enc w fuel cs x hx hw => ?_⟩
  obtain ⟨a, ha, hq'⟩ := h.2 H enc w fuel cs x hx hw
  exact ⟨a, ha, hq a hq'⟩
theorem reads_int {k : IntKind} (ht : P.underlying t = some (.int k)) (hc : P.cellsOf t = 1) : Reads P t (Kd.int k) (fun n => (Lit.int k n).wf = true) := by
  refine ⟨hc, fun H enc w fuel cs x hx _ => ?_⟩
  obtain ⟨n, rfl, _, hw⟩ := DataW.trod_int ht hx
  exact ⟨n, rfl, hw⟩
theorem reads_bool (ht : P.underlying t = some .bool) (hc : P.cellsOf t = 1) : Reads P t Kd.bool (fun _ => True) := by
  refine ⟨hc, fun H enc w fuel cs x hx _ => ?_⟩
  obtain ⟨b, rfl, _⟩ := DataW.trod_bool ht hx
  exact ⟨b, rfl, trivial⟩
theorem reads_string (ht : P.underlying t = some .string) (hc : P.cellsOf t = 1) : Reads P t Kd.string (fun s => s.size ≤ reachBytes) := by
  refine ⟨hc, fun H enc w fuel cs x hx hw => ?_⟩
  obtain ⟨s, rfl, rfl, _⟩ := DataW.trod_string ht hx
  exact ⟨s, rfl, by simpa [DataW.weights] using hw⟩
theorem weightsAll_mem {H : Type} {e : TypeId} : ∀ {l : List (DataW H)} {d : DataW H}, d ∈ l → ∀ n ∈ d.weights P e, n ∈ DataW.weightsAll P e l
  | a :: l, d, hd, n, hn => by
    unfold DataW.weightsAll
    rcases List.mem_cons.1 hd with rfl | h
    · exact List.mem_append_left _ hn
    · exact List.mem_append_right _ (weightsAll_mem h n hn)
theorem choose_list {α : Type} {p : Nat → α → Prop} : ∀ (n : Nat), (∀ i, i < n → ∃ a, p i a) → ∃ l : List α, l.length = n ∧ ∀ i a, l[i]? = some a → p i a
  | 0, _ => ⟨[], rfl, fun i a h => by simp at h⟩
  | n + 1, h => by
    obtain ⟨l, hl, hp⟩ := choose_list n (fun i hi => h i (by omega))
    obtain ⟨a, ha⟩ := h n (by omega)
    refine ⟨l ++ [a], by simp [hl], fun i b hb => ?_⟩
    by_cases hi : i < l.length
    · rw [List.getElem?_append_left hi] at hb
      exact hp i b hb
    · have := (List.getElem?_eq_some_iff.1 hb).1
      simp at this
      have e : i = l.length := by omega
      subst e
      simp at hb
      subst hb
      rw [hl]
      exact ha
theorem reads_slice {e : TypeId} {α : Type} {k : Kd α} {Q : α → Prop} (ht : P.underlying t = some (.slice e)) (hc : P.cellsOf t = 1) (he : Reads P e k Q) :
    Reads P t (Kd.slice e k) (fun l => l.length * P.bytesOf e ≤ reachBytes ∧ l.length ≤ 9223372036854775807 ∧ ∀ a ∈ l, Q a) := by
  refine ⟨hc, fun H enc w fuel cs x hx hw => ?_⟩
  rcases DataW.trod_slice ht hx with ⟨rfl, rfl⟩ | ⟨a, len, cap, elems, rest, n, _, rfl, rfl, _, hl, hm, hlen, hel, _, _⟩
  · exact ⟨[], ⟨none, 0, rfl, Nat.le_refl _, ⟨rfl, by simp, fun h => absurd h (by simp)⟩⟩, by simp, by simp, by simp⟩
  · have hw' : ∀ m ∈ ((elems.map (·.1)).length + (rest.map (·.1)).length) * P.bytesOf e :: (DataW.weightsAll P e (elems.map (·.1)) ++ DataW.weightsAll P e (rest.map (·.1))), m ≤ reachBytes := by
      have := hw
      unfold DataW.weights at this
      rw [ht] at this
      exact this
    have each : ∀ i, i < len → ∃ b, (∃ c, w.cells? 0 (a.add (i * P.cellsOf e)) (P.cellsOf e) = some c ∧ k.K w b c) ∧ Q b := by
      intro i hi
      have h1 := hel i hi
      have hi' : i < elems.length := by omega
      rw [List.getElem?_eq_getElem hi', Option.bind_eq_some_iff] at h1
      obtain ⟨c, hcs, hy⟩ := h1
      obtain ⟨b, hb, hq⟩ := he.2 H enc w n c _ hy (fun m hm' => hw' m (List.mem_cons_of_mem _ (List.mem_append_left _ (weightsAll_mem (List.mem_map.2 ⟨_, List.getElem_mem hi', rfl⟩) m hm'))))
      exact ⟨b, ⟨c, hcs, hb⟩, hq⟩
    obtain ⟨l, hll, hp⟩ := choose_list len each
    have hmax : len ≤ 9223372036854775807 := by unfold maxLen at hm; omega
    refine ⟨l, ⟨some a, cap, by rw [hll], by omega, ⟨rfl, by omega, fun _ => ⟨a, rfl, fun j p hj => ?_⟩⟩⟩, ?_, by omega, fun b hb => ?_⟩
    · obtain ⟨⟨c, hcs, hb⟩, _⟩ := hp j p hj
      refine ⟨c, k.K_len hb, hb, fun i u hu => ?_⟩
      obtain ⟨_, hlen', hcell⟩ := World.cells?_some hcs
      have hi := (List.getElem?_eq_some_iff.1 hu).1
      have := hcell i (by omega)
      rw [hu, Go.Deep.add_add] at this
      rw [← he.1]
      exact this
    · have := hw' _ (List.mem_cons_self ..)
      simp only [List.length_map] at this
      rw [hll, ← hlen]
      exact Nat.le_trans (Nat.mul_le_mul_right _ (Nat.le_add_right _ _)) this
    · obtain ⟨i, hi⟩ := List.getElem?_of_mem hb
      exact (hp i b hi).2
def ReadsF {α : Type} (P : Program) (fs : List Field) (off : Nat) (k : Kd α) (Q : α → Prop) : Prop :=
  ∀ (H : Type) (enc : TypeId × Value → H) (w : World) (n : Nat) (cs : List Value) (xs : List (DataW H × List MemPlace)), xs.length = fs.length →
    (∀ (i : Nat) (f : Field), fs[i]? = some f → DataW.trod enc P w 0 (fun _ => true) true n f.type ((cs.drop f.offset).take (P.cellsOf f.type)) = xs[i]?) →
    (∀ m ∈ DataW.weightsEach P (fs.map (·.type)) (xs.map (·.1)), m ≤ reachBytes) → cs.length = off + k.sz → ∃ a : α, k.K w a (cs.drop off) ∧ Q a
theorem readsF_one {f : Field} {off : Nat} {α : Type} {k : Kd α} {Q : α → Prop} (hf : f.offset = off) (h : Reads P f.type k Q) : ReadsF P [f] off k Q := by
  intro H enc w n cs xs hl hx hw hc
  obtain ⟨y, rfl⟩ : ∃ y, xs = [y] := by
    match xs, hl with
    | [y], _ => exact ⟨y, rfl⟩
  have h1 := hx 0 f rfl
  rw [hf, h.1, List.take_of_length_le (by rw [List.length_drop]; omega)] at h1
  exact h.2 H enc w n _ y h1 (fun m hm => hw m (by simp [DataW.weightsEach, hm]))
theorem readsF_cons {f : Field} {fs : List Field} {off : Nat} {α β : Type} {k1 : Kd α} {k2 : Kd β} {Q1 : α → Prop} {Q2 : β → Prop} (hf : f.offset = off) (h : Reads P f.type k1 Q1) (hr : ReadsF P fs (off + k1.sz) k2 Q2) :
    ReadsF P (f :: fs) off (Kd.pair k1 k2) (fun p => Q1 p.1 ∧ Q2 p.2) := by
  intro H enc w n cs xs hl hx hw hc
  obtain ⟨y, ys, rfl⟩ : ∃ y ys, xs = y :: ys := by
    match xs, hl with
    | y :: ys, _ => exact ⟨y, ys, rfl⟩
  have h1 := hx 0 f rfl
  rw [hf, h.1] at h1
  have hsz : (Kd.pair k1 k2).sz = k1.sz + k2.sz := rfl
  obtain ⟨a, ha, hqa⟩ := h.2 H enc w n _ y h1 (fun m hm => hw m (by simp [DataW.weightsEach, hm]))
  obtain ⟨b, hb, hqb⟩ := hr H enc w n cs ys (by simpa using hl) (fun i g hg => by simpa using hx (i + 1) g (by simpa using hg)) (fun m hm => hw m (by simp [DataW.weightsEach]; exact .inr (by simpa using hm))) (by omega)
  refine ⟨(a, b), ⟨_, _, ?_, ha, hb⟩, hqa, hqb⟩
  rw [← List.drop_drop, List.take_append_drop]
theorem reads_struct {fs : Array Field} {α : Type} {k : Kd α} {Q : α → Prop} (ht : P.underlying t = some (.struct fs)) (hc : P.cellsOf t = k.sz) (h : ReadsF P fs.toList 0 k Q) : Reads P t k Q := by
  refine ⟨hc, fun H enc w fuel cs x hx hw => ?_⟩
  obtain ⟨xs, n, _, rfl, hl, hlen, hf⟩ := DataW.trod_struct ht hx
  have := h H enc w n cs xs (by simpa using hlen) (fun i f hi => hf i f (by simpa using hi)) (fun m hm => hw m (by unfold DataW.weights; rw [ht]; exact hm)) (by omega)
  simpa using this
theorem Reads.iso {α β : Type} {k : Kd α} {Q : α → Prop} (h : Reads P t k Q) (f : β → α) (g : α → β) (hg : ∀ a, f (g a) = a) : Reads P t (Kd.iso k f) (fun b => Q (f b)) := by
  refine ⟨h.1, fun H enc w fuel cs x hx hw => ?_⟩
  obtain ⟨a, ha, hq⟩ := h.2 H enc w fuel cs x hx hw
  exact ⟨g a, by show k.K w (f (g a)) cs; rw [hg]; exact ha, by show Q (f (g a)); rw [hg]; exact hq⟩
theorem open_struct_arg {H : Type} {enc : TypeId × Value → H} {r : Reach} {b0 : Nat} {w : World} {fs : Array Field} {α : Type} {k : Kd α} {Q : α → Prop} {v : Value} {d : DataW H} {p : List MemPlace}
    (hr : Reads P t k Q) (ht : P.underlying t = some (.struct fs)) (hv : Value.okWide P w r b0 t v) (h : DataW.Trod enc P w 0 (fun _ => true) true t v d p) (hw : ∀ n ∈ d.weights P t, n ≤ reachBytes) :
    ∃ (cs : List Value) (x : α), v = .agg ⟨cs⟩ ∧ k.K w x cs ∧ Q x := by
  obtain ⟨cs, rfl, _⟩ := okWide_struct ht hv
  obtain ⟨fuel, hf⟩ := h
  obtain ⟨x, hx, hq⟩ := hr.2 H enc w fuel _ _ hf hw
  exact ⟨cs.toList, x, rfl, hx, hq⟩
theorem weights_arg {H : Type} {ts : List TypeId} {ds : List (DataW H)} (h : (DataW.weightsEach P ts ds).all (· ≤ reachBytes) = true) {j : Nat} {d : DataW H} (ht : ts[j]? = some t) (hd : ds[j]? = some d) : ∀ n ∈ d.weights P t, n ≤ reachBytes := by
  intro n hn
  have := DataW.weights_mem_each ht hd n hn
  simpa using (List.all_eq_true.1 h) n this
end Go.Proofs.YthjnallbbhnndaaDoor.Rd
namespace Go.Proofs.YthjnallbbhnndaaDoor.XWs
open Go.Proofs.YthjnallbbhnndaaDoor.Short Go.RowKit Go.Proofs.YthjnallbbhnndaaDoorW.PrintWords Go.Proofs.YthjnallbbhnndaaDoorW.PrintLast Go.Proofs.YthjnallbbhnndaaDoorW.PrintMore
attribute [local go_sem] max2_int min2_int max_two min_two max_three min_three max_four min_four   -- for this text's walks alone
set_option linter.unusedVariables false
set_option linter.unusedSimpArgs false
def slices_Reverse_int_int.l0 : Nat → List Int → Int → Int → Option (List Int)
 | 0, _, _, _ => none
 | k + 1, x0, x2, x3 => if x2 < x3 then (if 0 ≤ x3 then (if x3 < (x0.length : Int) then (if 0 ≤ x2 then (if x2 < (x0.length : Int) then (slices_Reverse_int_int.l0 k ((x0.set (x2 : Int).toNat (rd x0 x3)).set (x3 : Int).toNat (rd x0 x2)) (wrap64 (x2 + 1)) (wrap64 (x3 - 1))) else (none)) else (none)) else (none)) else (none)) else (some x0)
def slices_Reverse_int_int.f (k : Nat) (l0 : List Int) : Option (List Int) := slices_Reverse_int_int.l0 k l0 0 (wrap64 ((l0.length : Int) - 1))
theorem slices_Reverse_int_int.mono_l : ∀ k, (∀ y0 y1 y2, LeO (slices_Reverse_int_int.l0 k y0 y1 y2) (slices_Reverse_int_int.l0 (k + 1) y0 y1 y2))
 | 0 => fun _ _ _ r h => by simp [slices_Reverse_int_int.l0] at h
 | k + 1 => by
  have ih0 := slices_Reverse_int_int.mono_l k
  ·intro y0 y1 y2
   unfold slices_Reverse_int_int.l0
   repeat' first | with_reducible first | apply ih0 | exact LeO.refl _ | exact LeO.none _ | refine LeO.ite ?_ ?_ | refine LeO.bind ?_ (fun _ => ?_) | (first | apply ih0 | exact LeO.none _ | refine LeO.ite ?_ ?_ | refine LeO.bind ?_ (fun _ => ?_))
theorem slices_Reverse_int_int.mono : ∀ a0 k, LeO (slices_Reverse_int_int.f k a0) (slices_Reverse_int_int.f (k + 1) a0) := by
 intro a0 k
 have ih0 := slices_Reverse_int_int.mono_l k
 unfold slices_Reverse_int_int.f
 repeat' first | with_reducible first | apply ih0 | exact LeO.refl _ | exact LeO.none _ | refine LeO.ite ?_ ?_ | refine LeO.bind ?_ (fun _ => ?_) | (first | apply ih0 | exact LeO.none _ | refine LeO.ite ?_ ?_ | refine LeO.bind ?_ (fun _ => ?_))
def slices_Reverse_int_int.T3 : Bool × List (List Nat × List Nat) := (true, [([], []), ([], []), ([], []), ([], []), ([], []), ([], []), ([4, 5], [4, 5]), ([6], [6]), ([], []), ([], []), ([8, 9], [8, 9]), ([10], [10]), ([0, 1, 0, 1, 4, 5, 6, 7, 11], [0, 1]), ([12, 7, 0, 1, 4, 5, 6, 7, 11], [7, 12]), ([2, 3, 0, 1, 2, 3, 4, 5, 6, 7, 8, 9, 10, 11, 12, 13], [2, 3]), ([14, 11, 13, 0, 1, 2, 3, 4, 5, 6, 7, 8, 9, 10, 11, 12, 13], [11, 14])])
def slices_Reverse_int_int.B3 : List Nat := [0, 0, 0, 0, 0, 0, 48, 112, 0, 0, 768, 1792, 4083, 8179, 16383, 32767]
theorem slices_Reverse_int_int.tab3 : rtab .any (opsOf Tryd.f111 3) = slices_Reverse_int_int.T3 := by kernel_rfl
theorem slices_Reverse_int_int.bits3 : waitsOk slices_Reverse_int_int.T3.2 slices_Reverse_int_int.B3 = true := by kernel_rfl
set_option maxHeartbeats 8000000 in
set_option maxRecDepth 100000 in
theorem slices_Reverse_int_int.calls (k : Nat) (P0_ : Nat → Prop) (u9000_ : Value) (l0 : List Int) (r : List Int) (w0 w : World) (hB : Below w0.heap.size w0 w) (ho0 : Kd.R (Kd.int .i64) 3 w w0.heap.size P0_ u9000_ l0) (h : slices_Reverse_int_int.f k l0 = some r) :
 Calls Tryd.prog 111 #[u9000_] w fun e w' => e = .returned (.tuple #[]) ∧ Kd.R (Kd.int .i64) 3 w' w0.heap.size (fun k_ => (P0_ k_ ∨ w.heap.size ≤ k_)) u9000_ r ∧ Below w0.heap.size w0 w' ∧ Kept w w' (fun k_ => P0_ k_) := by
 have HO0 := aS (show Kd.R (Kd.int .i64) 3 w w0.heap.size (fun k_ => (P0_ k_ ∨ w.heap.size ≤ k_)) u9000_ l0 from Kd.R_mono ho0 (fun k_ hk => (.inl hk)))
 have HK := aS (Kept.refl w (fun k_ => P0_ k_))
 have HW0 := aS hB.size
 have HB := aS hB
 clear hB
 have H : (slices_Reverse_int_int.l0 k l0 0 (wrap64 ((l0.length : Int) - 1))) = some r := h
 clear h
 have H' := aS H
 clear H
 obtain ⟨Ao2, co2, eo2⟩ := Kd.R_slice HO0.out
 subst eo2
 go_enter Tryd.func111, Tryd.ntmps111
 go_wp2
 go_loopg [2, 3] k (fun kq v2 v3 w' => ∃ (x0_1 : List Int) (x2_1 : Int) (x3_1 : Int), v2 = .int .i64 x2_1 ∧ v3 = .int .i64 x3_1 ∧ Aside0 (slices_Reverse_int_int.l0 kq x0_1 x2_1 x3_1 = some r) ∧ Aside0 (kq ≤ k) ∧ Aside0 (Kd.R (Kd.int .i64) 3 w' w0.heap.size (fun k_ => (P0_ k_ ∨ w.heap.size ≤ k_)) (.slice Ao2 l0.length co2) x0_1) ∧ Aside0 (Kept w w' (fun k_ => P0_ k_)) ∧ Aside0 (Below w0.heap.size w0 w'))
 case atStart => exact ⟨(l0), (0), (wrap64 ((l0.length : Int) - 1)), zj, zj, H', ⟨Nat.le_refl _⟩, ⟨by (with_reducible repeat (first | apply rA | apply rN | apply rD)); exact HO0.out⟩, ⟨by repeat (first | (with_reducible first | exact HK.out | apply Kept.alloc | apply Kept.drewN | apply Kept.drew) | exact HK.out)⟩, ⟨by repeat (first | (with_reducible first | exact HB.out | apply bA | apply bN | apply bD) | exact HB.out)⟩⟩
 case round =>
  clear H'
  try clear c1
  try clear p2
  obtain ⟨x0_1, x2_1, x3_1, rfl, rfl, HA, HK1, HO_0, HK, HB⟩ := hrel
  have hl0_1 := (Kd.R_reads' HO_0.out).1
  rw [hl0_1] at HO_0
  (try simp only [hl0_1])
  cases gk with
  | zero => exact absurd HA.out (by simp [slices_Reverse_int_int.l0])
  | succ k1 =>
   have H := HA.out
   clear HA
   simp only [slices_Reverse_int_int.l0] at H
   by_cases c3 : x2_1 < x3_1
   ·rw [if_pos c3] at H
    have c3b0 : decide (x2_1 < x3_1) = true := decide_eq_true c3
    clear c3
    by_cases c4 : 0 ≤ x3_1
    ·rw [if_pos c4] at H
     have c4b0 : decide (0 ≤ x3_1) = true := decide_eq_true c4
     clear c4
     by_cases c5 : x3_1 < (x0_1.length : Int)
     ·rw [if_pos c5] at H
      have c5b0 : decide (x3_1 < (x0_1.length : Int)) = true := decide_eq_true c5
      clear c5
      by_cases c6 : 0 ≤ x2_1
      ·rw [if_pos c6] at H
       have c6b0 : decide (0 ≤ x2_1) = true := decide_eq_true c6
       clear c6
       by_cases c7 : x2_1 < (x0_1.length : Int)
       ·rw [if_pos c7] at H
        have c7b0 : decide (x2_1 < (x0_1.length : Int)) = true := decide_eq_true c7
        clear c7
        obtain ⟨y191, hy191⟩ : ∃ y_ : List Int, y_ = (x0_1.set (x2_1 : Int).toNat (rd x0_1 x3_1)) := ⟨_, rfl⟩
        replace H : (slices_Reverse_int_int.l0 k1 (y191.set (x3_1 : Int).toNat (rd x0_1 x2_1)) (wrap64 (x2_1 + 1)) (wrap64 (x3_1 - 1))) = some r := by first | (rw [hy191]; with_reducible exact H) | (have H2_ := (Option.bind_some _ _).symm.trans H; rw [hy191]; with_reducible exact H2_) | (have H2_ := (Option.bind_some _ _).symm.trans H; with_reducible exact H2_) | with_reducible exact H | (rw [hy191]; exact H) | exact H
        have Ny191 := aS hy191
        clear hy191
        obtain ⟨y192, hy192⟩ : ∃ y_ : List Int, y_ = (y191.set (x3_1 : Int).toNat (rd x0_1 x2_1)) := ⟨_, rfl⟩
        replace H : (slices_Reverse_int_int.l0 k1 y192 (wrap64 (x2_1 + 1)) (wrap64 (x3_1 - 1))) = some r := by first | (rw [hy192]; with_reducible exact H) | (have H2_ := (Option.bind_some _ _).symm.trans H; rw [hy192]; with_reducible exact H2_) | (have H2_ := (Option.bind_some _ _).symm.trans H; with_reducible exact H2_) | with_reducible exact H | (rw [hy192]; exact H) | exact H
        have Ny192 := aS hy192
        clear hy192
        have H' := aS H
        clear H
        try go_wp2
        have n0_ := aS (Kd.R_drew HO_0.out)
        have n1_ := aS (Kept.drew HK.out)
        have n2_ := aS (q0i HB.out)
        clear HO_0
        clear HK
        clear HB
        have HO_0 := n0_
        have HK := n1_
        have HB := n2_
        clear n0_ n1_ n2_
        have p189 : 0 ≤ (x3_1 : Int) := od za
        have q189 : x3_1 < (x0_1.length : Int) := od za
        obtain ⟨ad189, e189, hx189_0⟩ := Kd.at_int (Kd.R_reads' HO_0.out).2.2 x3_1 p189 q189
        cases e189
        replace p189 := eq_true p189
        replace q189 := eq_true q189
        have p190 : 0 ≤ (x2_1 : Int) := od za
        have q190 : x2_1 < (x0_1.length : Int) := od za
        obtain ⟨ad190, e190, hx190_0⟩ := Kd.at_int (Kd.R_reads' HO_0.out).2.2 x2_1 p190 q190
        obtain rfl : ad189 = ad190 := (by injection e190)
        replace p190 := eq_true p190
        replace q190 := eq_true q190
        have p8 : 0 ≤ (x2_1 : Int) := od za
        have q8 : (x2_1 : Int) < ((x0_1.length : Int) : Int) := od za
        obtain ⟨go8, co8, eo8, gb8, gl8, cl8, HG8⟩ := Kd.R_form HO_0.out (by omega)
        (first | cases eo8 | (injection eo8 with ea_ en_ ec_; (first | subst ea_ | (injection ea_ with ea_; subst ea_)); subst ec_; clear en_))
        have GB8 := aS gb8
        have GG8 := aS HG8
        clear gb8 gl8 HG8
        have HMgo8 := aS (show (P0_ go8 ∨ w.heap.size ≤ go8) from (HO_0.out.1 _ rfl))
        (first | simp only [add_plain] at hx189_0 | skip)
        (first | simp only [add_plain] at hx190_0 | skip)
        obtain ⟨hx8_0, hf8_0⟩ := Kd.R_celln 0 HO_0.out (x2_1 : Int) p8 q8
        replace p8 := eq_true p8
        replace q8 := eq_true q8
        have HP11 := Kd.R_putn HO_0.out (x2_1 : Int) (rd x0_1 x3_1)
        rw [← Ny191.out] at HP11
        have HQ11 := aS HP11
        clear HP11
        have p9 : 0 ≤ (x3_1 : Int) := od za
        have q9 : (x3_1 : Int) < ((x0_1.length : Int) : Int) := od za
        obtain ⟨hx9_0, hf9_0⟩ := Kd.R_celln 0 HQ11.out (x3_1 : Int) p9 q9
        replace p9 := eq_true p9
        replace q9 := eq_true q9
        have HP12 := Kd.R_putn HQ11.out (x3_1 : Int) (rd x0_1 x2_1)
        rw [← Ny192.out] at HP12
        have HQ12 := aS HP12
        clear HP12
        refine start_ (n := 16) (S := fun w' => w'.cell? ⟨go8, (x3_1).toNat, none⟩ = some (.int .i64 (rd x0_1 x3_1)) ∧ w'.cell? ⟨go8, (x2_1).toNat, none⟩ = some (.int .i64 (rd x0_1 x2_1))) (ds := [13, 15]) #[false, false, false, false, false, false, false, false, false, false, false, false, false, false, false, false] (by kernel_rfl) rfl rfl ⟨hx189_0, hx190_0⟩ (fun hHeld => ?_); refine with_tabW slices_Reverse_int_int.tab3 slices_Reverse_int_int.bits3 (fun HT_ HW_ => ?_)
        generalize wr.drew = w10 at HO_0 HK HB GG8 HQ11 HQ12 hf8_0 hf9_0 hx189_0 hx190_0 hx8_0 hx9_0 hHeld ⊢
        refine q18 (i := 0) (N := some 14) (v := ?_) (a' := ?_) #[true, false, false, false, false, false, false, false, false, false, false, false, false, false, false, false] rfl rfl (q0x HT_.out (by kernel_rfl)) (fun _ _ _ h => h) (Or.inl ⟨by rfl, ?_⟩) ?_ ?_
        rotate_left
        ·intro w'
         go_simp
         with_reducible rfl
        rotate_left
        ·simp only [Act.put, s1, s2, s3, q0p, q0r]
         rfl
        refine q18 (i := 1) (N := some 15) (v := ?_) (a' := ?_) #[true, true, false, false, false, false, false, false, false, false, false, false, false, false, false, false] rfl rfl (q0x HT_.out (by kernel_rfl)) (fun _ _ _ h => h) (Or.inl ⟨by rfl, ?_⟩) ?_ ?_
        rotate_left
        ·intro w'
         go_simp
         with_reducible rfl
        rotate_left
        ·simp only [Act.put, s1, s2, s3, q0p, q0r]
         rfl
        refine q18 (i := 2) (N := some 16) (v := ?_) (a' := ?_) #[true, true, true, false, false, false, false, false, false, false, false, false, false, false, false, false] rfl rfl (q0x HT_.out (by kernel_rfl)) (fun _ _ _ h => h) (Or.inl ⟨by rfl, ?_⟩) ?_ ?_
        rotate_left
        ·intro w'
         go_simp
         with_reducible rfl
        rotate_left
        ·simp only [Act.put, s1, s2, s3, q0p, q0r]
         rfl
        refine q18 (i := 3) (N := some 17) (v := ?_) (a' := ?_) #[true, true, true, true, false, false, false, false, false, false, false, false, false, false, false, false] rfl rfl (q0x HT_.out (by kernel_rfl)) (fun _ _ _ h => h) (Or.inl ⟨by rfl, ?_⟩) ?_ ?_
        rotate_left
        ·intro w'
         go_simp
         with_reducible rfl
        rotate_left
        ·simp only [Act.put, s1, s2, s3, q0p, q0r]
         rfl
        refine q18 (i := 4) (N := some 18) (v := ?_) (a' := ?_) #[true, true, true, true, true, false, false, false, false, false, false, false, false, false, false, false] rfl rfl (q0x HT_.out (by kernel_rfl)) (fun _ _ _ h => h) (Or.inl ⟨by rfl, ?_⟩) ?_ ?_
        rotate_left
        ·intro w'
         go_simp
         with_reducible rfl
        rotate_left
        ·simp only [Act.put, s1, s2, s3, q0p, q0r]
         rfl
        refine q18 (i := 5) (N := some 19) (v := ?_) (a' := ?_) #[true, true, true, true, true, true, false, false, false, false, false, false, false, false, false, false] rfl rfl (q0x HT_.out (by kernel_rfl)) (fun _ _ _ h => h) (Or.inl ⟨by rfl, ?_⟩) ?_ ?_
        rotate_left
        ·intro w'
         go_simp
         with_reducible rfl
        rotate_left
        ·simp only [Act.put, s1, s2, s3, q0p, q0r]
         rfl
        refine q18 (i := 6) (N := some 20) (v := ?_) (a' := ?_) #[true, true, true, true, true, true, true, false, false, false, false, false, false, false, false, false] rfl rfl (q0x HT_.out (by kernel_rfl)) (fun _ _ _ h => h) (Or.inl ⟨by rfl, ?_⟩) ?_ ?_
        rotate_left
        ·intro w'
         go_simp
         with_reducible rfl
        rotate_left
        ·simp only [Act.put, s1, s2, s3, q0p, q0r]
         rfl
        refine q18 (i := 8) (N := some 22) (v := ?_) (a' := ?_) #[true, true, true, true, true, true, true, false, true, false, false, false, false, false, false, false] rfl rfl (q0x HT_.out (by kernel_rfl)) (fun _ _ _ h => h) (Or.inl ⟨by rfl, ?_⟩) ?_ ?_
        rotate_left
        ·intro w'
         go_simp
         with_reducible rfl
        rotate_left
        ·simp only [Act.put, s1, s2, s3, q0p, q0r]
         rfl
        refine q18 (i := 9) (N := some 23) (v := ?_) (a' := ?_) #[true, true, true, true, true, true, true, false, true, true, false, false, false, false, false, false] rfl rfl (q0x HT_.out (by kernel_rfl)) (fun _ _ _ h => h) (Or.inl ⟨by rfl, ?_⟩) ?_ ?_
        rotate_left
        ·intro w'
         go_simp
         with_reducible rfl
        rotate_left
        ·simp only [Act.put, s1, s2, s3, q0p, q0r]
         rfl
        refine q18 (i := 10) (N := some 24) (v := ?_) (a' := ?_) #[true, true, true, true, true, true, true, false, true, true, true, false, false, false, false, false] rfl rfl (q0x HT_.out (by kernel_rfl)) (fun _ _ _ h => h) (Or.inl ⟨by rfl, ?_⟩) ?_ ?_
        rotate_left
        ·intro w'
         go_simp
         with_reducible rfl
        rotate_left
        ·simp only [Act.put, s1, s2, s3, q0p, q0r]
         rfl
        refine take_ (i := 7) (N := some 21) (v := ?_) (a' := ?_) #[true, true, true, true, true, true, true, true, true, true, true, false, false, false, false, false] rfl rfl (take_ofW HT_.out HW_.out (by kernel_rfl)) (fun _ _ _ h => h) (Or.inl ⟨by rfl, ?_⟩) hHeld ?_ ?_
        rotate_left
        ·rintro w' ⟨s0, s1⟩
         go_simp
         with_reducible rfl
        rotate_left
        ·simp only [Act.put, s1, s2, s3, q0p, q0r]
         rfl
        refine take_ (i := 11) (N := some 25) (v := ?_) (a' := ?_) #[true, true, true, true, true, true, true, true, true, true, true, true, false, false, false, false] rfl rfl (take_ofW HT_.out HW_.out (by kernel_rfl)) (fun _ _ _ h => h) (Or.inl ⟨by rfl, ?_⟩) hHeld ?_ ?_
        rotate_left
        ·rintro w' ⟨s0, s1⟩
         go_simp
         with_reducible rfl
        rotate_left
        ·simp only [Act.put, s1, s2, s3, q0p, q0r]
         rfl
        refine q18 (i := 12) (N := some 26) (v := ?_) (a' := ?_) #[true, true, true, true, true, true, true, true, true, true, true, true, true, false, false, false] rfl rfl (q0x HT_.out (by kernel_rfl)) (fun _ _ _ h => h) (Or.inl ⟨by rfl, ?_⟩) ?_ ?_
        rotate_left
        ·intro w'
         go_simp
         with_reducible rfl
        rotate_left
        ·simp only [Act.put, s1, s2, s3, q0p, q0r]
         rfl
        refine last_ (i := 13) (N := none) #[true, true, true, true, true, true, true, true, true, true, true, true, true, true, false, false] rfl rfl (one_of HT_.out (by kernel_rfl)) (by decide) (fun K hK => ?_)
        refine skip_ (w1 := ?_) (by rfl) rfl ?_ ?_
        rotate_left
        ·go_simp
         rfl
        refine hK.out _ _ ?_
        clear hK K
        refine q18 (i := 14) (N := some 27) (v := ?_) (a' := ?_) #[true, true, true, true, true, true, true, true, true, true, true, true, true, true, true, false] rfl rfl (q0x HT_.out (by kernel_rfl)) (fun _ _ _ h => h) (Or.inl ⟨by rfl, ?_⟩) ?_ ?_
        rotate_left
        ·intro w'
         go_simp
         with_reducible rfl
        rotate_left
        ·simp only [Act.put, s1, s2, s3, q0p, q0r]
         rfl
        refine last_ (i := 15) (N := none) #[true, true, true, true, true, true, true, true, true, true, true, true, true, true, true, true] rfl rfl (one_of HT_.out (by kernel_rfl)) (by decide) (fun K hK => ?_)
        refine skip_ (w1 := ?_) (by rfl) rfl ?_ ?_
        rotate_left
        ·go_simp
         rfl
        refine hK.out _ _ ?_
        clear hK K
        refine done_ (done_of HT_.out (by kernel_rfl)) ?_
        try go_wp2
        (try simp only [← hl0_1])
        go_roundg k1
        case measure => have := HK1.out; omega
        case rel => exact ⟨(y192), (wrap64 (x2_1 + 1)), (wrap64 (x3_1 - 1)), zj, zj, H', ⟨by have := HK1.out; omega⟩, ⟨by (try simp only [hl0_1]); (with_reducible repeat (first | apply rA | apply rN | apply rD)); exact HQ12.out⟩, ⟨by repeat (first | (with_reducible first | exact HK.out | apply Kept.alloc | apply Kept.drewN | apply Kept.drew | refine Kept.setCell ?_ HMgo8.out _ | refine Kept.setCell ?_ HMgo8.out _) | exact HK.out)⟩, ⟨by repeat (first | (with_reducible first | exact HB.out | apply bA | apply bN | apply bD | refine bS ?_ GB8.out | refine bS ?_ GB8.out) | exact HB.out)⟩⟩
       ·rw [if_neg c7] at H
        exact absurd H (by simp)
      ·rw [if_neg c6] at H
       exact absurd H (by simp)
     ·rw [if_neg c5] at H
      exact absurd H (by simp)
    ·rw [if_neg c4] at H
     exact absurd H (by simp)
   ·rw [if_neg c3] at H
    have c3b0 : decide (x2_1 < x3_1) = false := decide_eq_false c3
    (try simp only [hl0_1] at c3b0)
    clear c3
    obtain rfl := Option.some.inj H
    go_wp2
    first | go_end0 | ((try simp only [Exit.inBlock, Exit.then]); refine bodyPost_ret (results_none rfl _ _ _) rfl ?_)
    exact ⟨by first | rfl | (simp [q04, q03] <;> rfl) | (simp [*, q04, q03] <;> rfl), (by first | exact (zg HO_0.out) | (simp only [hl0_1]; exact (zg HO_0.out))), by repeat (first | (with_reducible first | exact HB.out | apply bA | apply bN | apply bD) | exact HB.out), by repeat (first | (with_reducible first | exact HK.out | apply Kept.alloc | apply Kept.drewN | apply Kept.drew) | exact HK.out)⟩
def q02 (w0 W : World) (g : Nat) (f0 : List (S43)) (f1 : Bool) : Prop := ∃ A0 c0, W.heap[g]? = some (.cells #[.slice A0 f0.length c0, .bool f1] 116 (0, 0)) ∧ w0.heap.size ≤ g ∧ Kd.C k43 w0 A0 f0.length f0
theorem q02.grown {w0 W : World} {g : Nat} {f0 : List (S43)} {f1 : Bool} {W1 : World} {row : Option Nat} (h : q02 w0 W g f0 f1) (hw : W.grownBy W1 row) (hne : some g ≠ row) : q02 w0 W1 g f0 f1 := by
 obtain ⟨A0, c0, hb, hg, hr0⟩ := h
 exact ⟨A0, c0, blk_grown hb hw hne, hg, hr0⟩
theorem q02.kept {w0 W : World} {g : Nat} {f0 : List (S43)} {f1 : Bool} {W1 : World} {S : Nat → Prop} (h : q02 w0 W g f0 f1) (hk : Kept W W1 S) (hne : ¬ S g) : q02 w0 W1 g f0 f1 := by
 obtain ⟨A0, c0, hb, hg, hr0⟩ := h
 exact ⟨A0, c0, blk_kept hb hk hne, hg, hr0⟩
theorem q02.below {w0 W : World} {g : Nat} {f0 : List (S43)} {f1 : Bool} {W1 : World} (h : q02 w0 W g f0 f1) (hw : Below W.heap.size W W1) : q02 w0 W1 g f0 f1 := h.grown (grown_of_below hw none) (by simp)
theorem q02.alloc {w0 W : World} {g : Nat} {f0 : List (S43)} {f1 : Bool} (h : q02 w0 W g f0 f1) (o : Obj) : q02 w0 (W.alloc o) g f0 f1 := h.below (q0d (Below.refl _ _) o)
theorem q02.drewN {w0 W : World} {g : Nat} {f0 : List (S43)} {f1 : Bool} (h : q02 w0 W g f0 f1) (m : Nat) : q02 w0 (W.drewN m) g f0 f1 := h
theorem q02.drew {w0 W : World} {g : Nat} {f0 : List (S43)} {f1 : Bool} (h : q02 w0 W g f0 f1) : q02 w0 W.drew g f0 f1 := h
theorem q02.at_ {w0 W : World} {g : Nat} {f0 : List (S43)} {f1 : Bool} {w' : World} {m : Nat} (hq : W.drewN m = w') (h : q02 w0 W g f0 f1) : q02 w0 w' g f0 f1 := by subst hq; exact q02.drewN h m
theorem q02.apart {w0 W : World} {g : Nat} {f0 : List (S43)} {f1 : Bool} {α : Type} {d : Kd α} {e : Nat} {base : Nat} {ok : Nat → Prop} {v : Value} {xs : List α} (h : q02 w0 W g f0 f1) (ho : d.R e W base ok v xs) (ht : ∀ q, q ∈ e :: d.E → q ≠ 116) : d.R e W base (fun k => ok k ∧ k ≠ g) v xs := by
 obtain ⟨A0, c0, hb, hg, hr0⟩ := h
 exact Kd.R_types ho hb ht
theorem q02.own_ne {w0 W : World} {g : Nat} {f0 : List (S43)} {f1 : Bool} {α : Type} {d : Kd α} {e : Nat} {base : Nat} {ok : Nat → Prop} {v : Value} {xs : List α} (h : q02 w0 W g f0 f1) (ho : d.R e W base ok v xs) (ht : e ≠ 116) : some g ≠ v.ownBlock := by
 obtain ⟨A0, c0, hb, hg, hr0⟩ := h
 exact Kd.R_ne ho hb ht
theorem q02.lt {w0 W : World} {g : Nat} {f0 : List (S43)} {f1 : Bool} (h : q02 w0 W g f0 f1) : g < W.heap.size := by
 obtain ⟨A0, c0, hb, hg, hr0⟩ := h
 exact q13 hb
theorem q02.ge {w0 W : World} {g : Nat} {f0 : List (S43)} {f1 : Bool} (h : q02 w0 W g f0 f1) : w0.heap.size ≤ g := by
 obtain ⟨A0, c0, hb, hg, hr0⟩ := h
 exact hg
theorem q02.far {w0 W : World} {g : Nat} {f0 : List (S43)} {f1 : Bool} {p : Addr} (h : q02 w0 W g f0 f1) (hne : g ≠ p.block) (u : Value) : q02 w0 (W.setCell p u) g f0 f1 := by
 obtain ⟨A0, c0, hb, hg, hr0⟩ := h
 exact ⟨A0, c0, q0o hb hne u, hg, hr0⟩
theorem cellS116_0 {W : World} {g : Nat} {A0 : Option Addr} {c0 : Nat} {f0 : List (S43)} {f1 : Bool} (h : W.heap[g]? = some (.cells #[.slice A0 f0.length c0, .bool f1] 116 (0, 0))) : W.cell? ⟨g, 0, none⟩ = some (.slice A0 f0.length c0) := (q05 h 0).trans rfl
theorem cellS116_1 {W : World} {g : Nat} {A0 : Option Addr} {c0 : Nat} {f0 : List (S43)} {f1 : Bool} (h : W.heap[g]? = some (.cells #[.slice A0 f0.length c0, .bool f1] 116 (0, 0))) : W.cell? ⟨g, 1, none⟩ = some (.bool f1) := (q05 h 1).trans rfl
theorem q02.set_1 {w0 W : World} {g : Nat} {f0 : List (S43)} {f1 : Bool} (h : q02 w0 W g f0 f1) (x : Bool) : q02 w0 (W.setCell ⟨g, 1, none⟩ (.bool x)) g f0 x := by
 obtain ⟨A0, c0, hb, hg, hr0⟩ := h
 exact ⟨A0, c0, by simpa using blk_set hb 1 (.bool x), hg, hr0⟩
theorem q02.new (w0 W : World) (A0 : Option Addr) (c0 : Nat) (f0 : List (S43)) (f1 : Bool) (hB : Below w0.heap.size w0 W) (hr0 : Kd.C k43 w0 A0 f0.length f0) : q02 w0 (W.alloc (.cells #[.slice A0 f0.length c0, .bool f1] 116)) W.heap.size f0 f1 := ⟨A0, c0, by simpa using heap_alloc_new W _, hB.size, hr0⟩
def walk_walker_path.l0 : Nat → Int → List Int → List (S43) → Bool → Option (List Int × Bool)
 | 0, _, _, _, _ => none
 | k + 1, x1, x4, x1000, x1001 => if x1 ≥ 0 then (if x4.length < 17592186044416 then (if 0 ≤ x1 then (if x1 < (x1000.length : Int) then (walk_walker_path.l0 k ((q00 x1000 x1).f4) (x4 ++ [x1]) x1000 x1001) else (none)) else (none)) else (none)) else ((slices_Reverse_int_int.f k x4).bind fun t197 => (some (t197, x1001)))
def walk_walker_path.f (k : Nat) (s0_0 : List (S43)) (s0_1 : Bool) (a1 : Int) : Option (List Int × Bool) := walk_walker_path.l0 k a1 ([] : List Int) s0_0 s0_1
theorem walk_walker_path.mono_l : ∀ k, (∀ y0 y1 y2 y3, LeO (walk_walker_path.l0 k y0 y1 y2 y3) (walk_walker_path.l0 (k + 1) y0 y1 y2 y3))
 | 0 => fun _ _ _ _ r h => by simp [walk_walker_path.l0] at h
 | k + 1 => by
  have ih0 := walk_walker_path.mono_l k
  ·intro y0 y1 y2 y3
   unfold walk_walker_path.l0
   repeat' first | with_reducible first | apply ih0 | apply slices_Reverse_int_int.mono | exact LeO.refl _ | exact LeO.none _ | refine LeO.ite ?_ ?_ | refine LeO.bind ?_ (fun _ => ?_) | (first | apply ih0 | apply slices_Reverse_int_int.mono | exact LeO.none _ | refine LeO.ite ?_ ?_ | refine LeO.bind ?_ (fun _ => ?_))
theorem walk_walker_path.mono : ∀ a0 a1 a2 k, LeO (walk_walker_path.f k a0 a1 a2) (walk_walker_path.f (k + 1) a0 a1 a2) := by
 intro a0 a1 a2 k
 have ih0 := walk_walker_path.mono_l k
 unfold walk_walker_path.f
 repeat' first | with_reducible first | apply ih0 | apply slices_Reverse_int_int.mono | exact LeO.refl _ | exact LeO.none _ | refine LeO.ite ?_ ?_ | refine LeO.bind ?_ (fun _ => ?_) | (first | apply ih0 | apply slices_Reverse_int_int.mono | exact LeO.none _ | refine LeO.ite ?_ ?_ | refine LeO.bind ?_ (fun _ => ?_))
set_option maxHeartbeats 8000000 in
set_option maxRecDepth 100000 in
theorem walk_walker_path.calls (k : Nat) (g : Nat) (s0_0 : List (S43)) (s0_1 : Bool) (a1 : Int) (r1 : List Int) (r2 : Bool) (w0 w : World) (hI : q02 w0 w g s0_0 s0_1) (hB : Below w0.heap.size w0 w) (h : walk_walker_path.f k s0_0 s0_1 a1 = some (r1, r2)) :
 Calls Tryd.prog 76 #[.pointer (some ⟨g, 0, none⟩), .int .i64 a1] w fun e w' => ∃ v0_ : Value, e = .returned (v0_) ∧ Kd.R (Kd.int .i64) 3 w' w.heap.size (fun _ => True) v0_ r1 ∧ q02 w0 w' g s0_0 r2 ∧ Below w0.heap.size w0 w' ∧ q08 w w' g none := by
 have HI0 := aS hI
 have HK := aS (q08.refl w g none)
 have HL := aS hB.size
 clear hI
 have HW0 := aS hB.size
 have HB := aS hB
 clear hB
 have H := h; clear h; unfold walk_walker_path.f at H
 have H' := aS H
 clear H
 go_enter Tryd.func76, Tryd.ntmps76
 go_wp2
 go_loopg [1, 4] k (fun kq v1 v4 w' => ∃ (x1_1 : Int) (x4_1 : List Int), v1 = .int .i64 x1_1 ∧ Aside0 (walk_walker_path.l0 kq x1_1 x4_1 s0_0 s0_1 = some (r1, r2)) ∧ Aside0 (kq ≤ k) ∧ Aside0 (Kd.R (Kd.int .i64) 3 w' w.heap.size (fun _ => True) v4 x4_1) ∧ Aside0 (q02 w0 w' g s0_0 s0_1) ∧ Aside0 (q08 w w' g none) ∧ Aside0 (Below w0.heap.size w0 w'))
 case atStart => exact ⟨(a1), (([] : List Int)), zj, H', ⟨Nat.le_refl _⟩, ⟨by first | exact Kd.R_nil _ _ _ _ _ | exact Kd.N_nil _ _ _ _ _ | exact Kd.V_nil _ _ _ _ _ | exact Kd.Q_nil _ _ _ _ _ | exact Kd.S_nil _ _ _ _ _⟩, ⟨by repeat (first | (with_reducible first | exact HI0.out | apply q02.alloc | apply q02.drewN | apply q02.drew | apply q02.set_1) | exact HI0.out)⟩, ⟨by repeat (first | (with_reducible first | exact HK.out | apply q08.set_ | apply q0b | apply q0f | apply q0c) | exact HK.out)⟩, ⟨by repeat (first | (with_reducible first | exact HB.out | apply bA | apply bN | apply bD | refine bS ?_ (q02.ge HI0.out)) | exact HB.out)⟩⟩
 case round =>
  clear H'
  obtain ⟨x1_1, x4_1, rfl, HA, HK1, HO_4, HI0, HK, HB⟩ := hrel
  cases gk with
  | zero => exact absurd HA.out (by simp [walk_walker_path.l0])
  | succ k1 =>
   have H := HA.out
   clear HA
   simp only [walk_walker_path.l0] at H
   refine iL H ?p3 ?n3 <;> clear H
   case' p3 =>
    intro c3b0 H
    refine iGp H ?_; clear H; intro c4 H
    have LMc4 := aS c4
    clear c4
    obtain ⟨y193, hy193⟩ : ∃ y_ : List Int, y_ = (x4_1 ++ [x1_1]) := ⟨_, rfl⟩
    replace H : (if 0 ≤ x1_1 then (if x1_1 < (s0_0.length : Int) then (walk_walker_path.l0 k1 ((q00 s0_0 x1_1).f4) y193 s0_0 s0_1) else (none)) else (none)) = some (r1, r2) := by first | (rw [hy193]; with_reducible exact H) | (have H2_ := (Option.bind_some _ _).symm.trans H; rw [hy193]; with_reducible exact H2_) | (have H2_ := (Option.bind_some _ _).symm.trans H; with_reducible exact H2_) | with_reducible exact H | (rw [hy193]; exact H) | exact H
    have Ny193 := aS hy193
    clear hy193
    refine iLp H ?_; clear H; intro c5b0 H
    refine iTp H ?_; clear H; intro c6b0 H
   case' n3 => intro c3b0 H
   case p3 =>
    have H' := aS H
    clear H
    go_wp2_with (first | ((with_reducible refine gate_builtin (b := .append) (xs := #[.tmp 16, .tmp 18]) rfl ?_); at_builtin; refine Kd.R_append (Kd.int .i64) w.heap.size rfl (.tmp 16) (.tmp 18) 31 3 (.int .i64 0) 8 rfl Tryd.underlying31 info3 rfl (by decide) (by omega) u4 x4_1 x1_1 [.int .i64 x1_1] (fun _ => True) (fun _ => False) rfl rfl ?aP (fun _ hk => hk.elim) ?aF ?aO (Below.refl _ _) ?aS ?aL ?_; (case aP => exact rfl); (case aF => exact (fun _ _ => trivial)); (case aO => exact (zg HO_4.out)); (case aS => exact (keep_size (w := w) (g := g) (row := none) (by repeat (first | (with_reducible first | exact HK.out | apply q08.set_ | apply q0b | apply q0f | apply q0c) | exact HK.out)))); (case aL => have := LMc4.out; omega); intro v194 w7 ho hb hg hat; rw [← Ny193.out] at ho; have n0_ := aS (q02.grown (by repeat (first | (with_reducible first | exact HI0.out | apply q02.alloc | apply q02.drewN | apply q02.drew | apply q02.set_1) | exact HI0.out)) hg (q02.own_ne HI0.out HO_4.out (by decide))); have n1_ := aS (below_weaken (by repeat (first | (with_reducible first | exact HB.out | apply bA | apply bN | apply bD | refine bS ?_ (q02.ge HI0.out)) | exact HB.out)) HL.out hb); have n2_ := aS (q08.trans (by repeat (first | (with_reducible first | exact HK.out | apply q08.set_ | apply q0b | apply q0f | apply q0c) | exact HK.out)) (q08.of_grown hg g) (Kd.R_base2 HO_4.out)); have n3_ := aS (ho); clear HI0; clear HB; clear HK; clear HO_4; have HI0 := n0_; have HB := n1_; have HK := n2_; have HO195 := n3_; clear n0_ n1_ n2_ n3_; clear ho hb hg hat; obtain ⟨ASzL_0, cSzL_0, HGzL, hgzL, HSzL_0⟩ := HI0.out; have hczL_0 := cellS116_0 HGzL; have hczL_1 := cellS116_1 HGzL; have hfzL_1 := q0w HGzL 1; clear HGzL hgzL; obtain ⟨ad196, A196_2, c196_2, A196_5, c196_5, e196, hx196_0, hx196_1, hx196_2, hx196_3, hx196_4, hx196_5, HC196_2, HR196_2, HC196_5, HR196_5, p196, q196⟩ := q0m HB.out HSzL_0 x1_1 za za; cases e196))
    go_roundg k1
    case measure => have := HK1.out; omega
    case rel => exact ⟨((q00 s0_0 x1_1).f4), (y193), zj, H', ⟨by have := HK1.out; omega⟩, ⟨by (with_reducible repeat (first | apply rA | apply rN | apply rD)); exact HO195.out⟩, ⟨by repeat (first | (with_reducible first | exact HI0.out | apply q02.alloc | apply q02.drewN | apply q02.drew | apply q02.set_1) | exact HI0.out)⟩, ⟨by repeat (first | (with_reducible first | exact HK.out | apply q08.set_ | apply q0b | apply q0f | apply q0c) | exact HK.out)⟩, ⟨by repeat (first | (with_reducible first | exact HB.out | apply bA | apply bN | apply bD | refine bS ?_ (q02.ge HI0.out)) | exact HB.out)⟩⟩
   case n3 =>
    replace H := iB H
    obtain ⟨t197, A9, H⟩ := H
    simp only [Option.some.injEq, Prod.mk.injEq] at H
    obtain ⟨rfl, rfl⟩ := H
    obtain ⟨Ao10, co10, eo10⟩ := Kd.R_slice HO_4.out
    subst eo10
    go_wp2_with (first | ((with_reducible refine q06 (f := 111) rfl ?_); refine q0l (some 21) rfl rfl Tryd.func111 (by kernel_rfl) rfl #[.slice Ao10 x4_1.length co10] rfl zd ?_; (with_reducible refine (slices_Reverse_int_int.calls k1 (fun k_ => some k_ = (.slice Ao10 x4_1.length co10 : Value).ownBlock) (.slice Ao10 x4_1.length co10) x4_1 t197 w0 _ ?side1 ?side2 A9.out).mono ?_); (case side1 => repeat (first | (with_reducible first | exact HB.out | apply bA | apply bN | apply bD | refine bS ?_ (q02.ge HI0.out)) | exact HB.out)); (case side2 => exact Kd.R_lower (Kd.R_tight rfl HO_4.out) HL.out); rintro e w11 ⟨rfl, hy0, hb, hkp⟩; refine ⟨_, rfl, ?_⟩; have n0_ := aS (Kd.R_reok rfl (Kd.R_raise (d := (Kd.int .i64)) (b := w0.heap.size) (b' := w.heap.size) (fun _ _ _ _ h_ => h_) hy0 (fun k_ e_ => Or.elim (hy0.1 k_ e_) (fun hs_ => (fun e_ => Kd.R_base HO_4.out k_ e_.symm) hs_) (fun hn_ => Nat.le_trans (keep_size (w := w) (g := g) (row := none) (by repeat (first | (with_reducible first | exact HK.out | apply q08.set_ | apply q0b | apply q0f | apply q0c) | exact HK.out))) hn_))) (fun k_ e_ => HO_4.out.1 k_ e_)); have n1_ := aS (q02.kept (by repeat (first | (with_reducible first | exact HI0.out | apply q02.alloc | apply q02.drewN | apply q02.drew | apply q02.set_1) | exact HI0.out)) hkp (fun hs_ => (fun e_ => (q02.own_ne HI0.out HO_4.out (by decide)) e_) hs_)); have n2_ := aS (Kept.keepG (by repeat (first | (with_reducible first | exact HK.out | apply q08.set_ | apply q0b | apply q0f | apply q0c) | exact HK.out)) hkp (fun k_ hs_ => (fun e_ => .inr (Kd.R_base HO_4.out k_ e_.symm)) hs_)); have n3_ := aS (hb); clear HO_4; clear HI0; clear HK; clear HB; have HO_4 := n0_; have HI0 := n1_; have HK := n2_; have HB := n3_; clear n0_ n1_ n2_ n3_; (try clear hb); (try clear hkp); (try clear hy0)))
    go_ret
    exact ⟨_, by first | rfl | (simp [q04, q03] <;> rfl) | (simp [*, q04, q03] <;> rfl), by (with_reducible repeat (first | apply rA | apply rN | apply rD)); exact HO_4.out, by repeat (first | (with_reducible first | exact HI0.out | apply q02.alloc | apply q02.drewN | apply q02.drew | apply q02.set_1) | exact HI0.out), by repeat (first | (with_reducible first | exact HB.out | apply bA | apply bN | apply bD | refine bS ?_ (q02.ge HI0.out)) | exact HB.out), by repeat (first | (with_reducible first | exact HK.out | apply q08.set_ | apply q0b | apply q0f | apply q0c) | exact HK.out)⟩
def walk_check.outR (ns : List S43) : List Int → Bool
 | [] => false
 | n :: t => decide (n < 0) || (decide (n ≥ ns.length) || walk_check.outR ns t)
def walk_check.offR (k : Nat) (ns : List S43) (q : Bool) : List Int → Option Int
 | [] => some 0
 | n :: t => (walk_walker_path.f k ns q n).bind fun r => if 0 < r.1.length ∧ r.2 = q then (if rd r.1 0 = 0 then walk_check.offR k ns q t else some 5) else none
def walk_check.f (k : Nat) (ns : List S43) (q : Bool) (ll : List Int) : Option Int :=
 (dom_Check.f k ns q).bind fun e => if e = 0 then (if walk_check.outR ns ll = true then some 1 else walk_check.offR k ns q ll) else some e
def walk_check.left (ll : List Int) : Value → Nat
 | .int _ i => ll.length - i.toNat
 | _ => 0
theorem walk_check.blk {W W1 : World} {g : Nat} {o : Obj} (h : W.heap[g]? = some o) (hb : Below W.heap.size W W1) : W1.heap[g]? = some o := (hb.block g (by
 by_cases c : g < W.heap.size
 ·exact c
 ·rw [Array.getElem?_eq_none (by omega)] at h; cases h)).trans h
theorem walk_check.dropL (l : List Int) (i : Nat) (h : i < l.length) : l.drop i = rd l (i : Int) :: l.drop (i + 1) := by
 rw [List.drop_eq_getElem_cons h]
 congr 1
 simp [rd, List.getD, h]
set_option maxHeartbeats 8000000 in
set_option maxRecDepth 100000 in
theorem walk_check.calls (k : Nat) (A0 : Option Addr) (c0 : Nat) (l0 : List S43) (a1 : Bool) (Al : Option Addr) (cl : Nat) (ll : List Int) (r : Int) (w : World) (hr0 : Kd.C k43 w A0 l0.length l0) (hc0 : l0.length ≤ c0)
 (hrl : Kd.C (Kd.int .i64) w Al ll.length ll) (hcl : ll.length ≤ cl) (hll : ll.length ≤ 4611686018427387904) (h : walk_check.f k l0 a1 ll = some r) :
 Calls Tryd.prog 70 #[.agg #[.slice A0 l0.length c0, .bool a1], .slice Al ll.length cl] w fun e w' =>
  Below w.heap.size w w' ∧ ((r ≠ 0 ∧ e = .returned (.tuple #[.pointer none, .int .i64 r])) ∨ (r = 0 ∧ ∃ g, e = .returned (.tuple #[.pointer (some ⟨g, 0, none⟩), .int .i64 0]) ∧ q02 w w' g l0 a1)) := by
 have hu24 := Tryd.underlying24
 have hu116 := Tryd.underlying116
 unfold walk_check.f at h
 obtain ⟨e0, he0, h⟩ := Option.bind_eq_some_iff.1 h
 have HE := aS he0
 have HR := aS hr0
 have HC := aS hc0
 have HRl := aS hrl
 have HCl := aS hcl
 have HRL := aS hll
 have HB := aS (Below.refl w.heap.size w)
 clear he0 hr0 hc0 hrl hcl hll
 by_cases z0 : e0 = 0
 ·subst z0
  rw [if_pos rfl] at h
  have H := aS h
  clear h
  go_enter Tryd.func70, Tryd.ntmps70
  go_wp2_with (first
   | ((with_reducible refine q0g (N := 2) rfl ?_); refine q0n ?hg (N := 2) ?hd (cs := #[.slice A0 l0.length c0, .bool a1]) (t := 24) ?hr ?_; (case hd => rfl); (case hg => rfl); (case hr => first | (go_simp; done) | (go_simp; rfl)); intro gb hg wb hbox hb; have n0_ := aS (q01 (z7 HB.out) hb); have GEgb := aS (by rw [hg]; exact q0h (z7 HB.out) : w.heap.size ≤ gb); have BK := aS hbox; have hcz0 : wb.cell? ⟨gb, 0, none⟩ = some (.slice A0 l0.length c0) := (q05 BK.out 0).trans rfl; have hcz1 : wb.cell? ⟨gb, 1, none⟩ = some (.bool a1) := (q05 BK.out 1).trans rfl; clear HB; have HB := n0_; clear n0_ hg hbox hb)
   | (go_at_call 52; refine (dom_Check.calls k A0 c0 l0 a1 0 _ (Kd.C_below HR.out (z7 HB.out)) HC.out HE.out).mono ?_; rintro e w1 ⟨rfl, hb⟩; replace HB := aS (q01 (z7 HB.out) hb); have BKn := aS (walk_check.blk BK.out hb); clear BK; have BK := BKn; clear BKn; clear hcz0 hcz1; have hcz0 : w1.cell? ⟨gb, 0, none⟩ = some (.slice A0 l0.length c0) := (q05 BK.out 0).trans rfl; have hcz1 : w1.cell? ⟨gb, 1, none⟩ = some (.bool a1) := (q05 BK.out 1).trans rfl; clear hb)
   | ((with_reducible refine q0g (N := 19) rfl ?_); refine q0n ?hg (N := 19) ?hd (cs := #[.slice A0 l0.length c0, .bool a1]) (t := 116) ?hr ?_; (case hd => rfl); (case hg => rfl); (case hr => first | (go_simp; done) | (go_simp; rfl)); intro g hg wg hbox hb; have n0_ := aS (q01 (z7 HB.out) hb); have GEg := aS (by rw [hg]; exact q0h (z7 HB.out) : w.heap.size ≤ g); have BG := aS hbox; have hgz0 : wg.cell? ⟨g, 0, none⟩ = some (.slice A0 l0.length c0) := (q05 BG.out 0).trans rfl; have hgz1 : wg.cell? ⟨g, 1, none⟩ = some (.bool a1) := (q05 BG.out 1).trans rfl; clear HB; have HB := n0_; have BKn := aS (walk_check.blk BK.out hb); clear BK; have BK := BKn; clear BKn; clear n0_ hg hbox hb))
  go_loopw [22] (fun v W => ∃ i : Nat, v = .int .i64 (i : Int) ∧ Aside0 (i ≤ ll.length) ∧ Aside0 (walk_check.outR l0 (ll.drop i) = walk_check.outR l0 ll) ∧ Aside0 (W.heap[gb]? = some (.cells #[.slice A0 l0.length c0, .bool a1] 24 (0, 0))) ∧ Aside0 (W.heap[g]? = some (.cells #[.slice A0 l0.length c0, .bool a1] 116 (0, 0))) ∧ Aside0 (Below w.heap.size w W)) (fun v _ => walk_check.left ll v)
  case atStart => exact ⟨0, rfl, ⟨Nat.zero_le _⟩, ⟨by rw [List.drop_zero]⟩, BK, BG, ⟨by repeat (first | exact HB.out | apply bA | apply bN | apply bD)⟩⟩
  case round =>
   clear BK BG HB
   obtain ⟨i, rfl, HI, HO, BK, BG, HB⟩ := hrel
   by_cases ci : i < ll.length
   ·have p1 : 0 ≤ (i : Int) := Int.natCast_nonneg _
    have q1 : (i : Int) < (ll.length : Int) := by omega
    obtain ⟨ad, rfl, hx⟩ := Kd.at_int HRl.out (i : Int) p1 q1
    replace hx := (HB.out.cell (World.block_lt_of_cell? w _ hx)).trans hx
    rw [show ((i : Int)).toNat = i from rfl] at hx
    have hO := HO.out
    rw [walk_check.dropL ll i ci] at hO
    have cib : decide ((i : Int) < (ll.length : Int)) = true := decide_eq_true q1
    have cib2 : decide (i < ll.length) = true := decide_eq_true ci
    replace p1 := eq_true p1
    replace q1 := eq_true q1
    have hcz0 := (q05 BK.out 0).trans rfl
    by_cases c1 : rd ll (i : Int) < 0
    ·have hbad : walk_check.outR l0 ll = true := by rw [← hO]; simp [walk_check.outR, c1]
     have h := H.out
     rw [if_pos hbad] at h
     obtain rfl := Option.some.inj h
     have c1b : decide (rd ll (i : Int) < 0) = true := decide_eq_true c1
     clear hO hbad h c1 ci
     go_wp2
     go_ret2
     exact ⟨by repeat (first | exact HB.out | apply bA | apply bN | apply bD), .inl ⟨by decide, rfl⟩⟩
    ·have c1b : decide (rd ll (i : Int) < 0) = false := decide_eq_false c1
     by_cases c2 : rd ll (i : Int) ≥ (l0.length : Int)
     ·have hbad : walk_check.outR l0 ll = true := by rw [← hO]; simp [walk_check.outR, c2]
      have h := H.out
      rw [if_pos hbad] at h
      obtain rfl := Option.some.inj h
      have c2b : decide ((l0.length : Int) ≤ rd ll (i : Int)) = true := decide_eq_true c2
      clear hO hbad h c1 c2 ci
      go_wp2
      go_ret2
      exact ⟨by repeat (first | exact HB.out | apply bA | apply bN | apply bD), .inl ⟨by decide, rfl⟩⟩
     ·have c2b : decide ((l0.length : Int) ≤ rd ll (i : Int)) = false := decide_eq_false c2
      have HO1 : Aside0 (walk_check.outR l0 (ll.drop (i + 1)) = walk_check.outR l0 ll) := ⟨by rw [← hO]; simp [walk_check.outR, c1, c2]⟩
      have hw : wrap64 ((i : Int) + 1) = ((i + 1 : Nat) : Int) := by have := HI.out; have := HRL.out; unfold wrap64; omega
      have CI := aS ci
      clear hO c1 c2 ci
      go_wp2
      go_roundw
      case rel => exact ⟨i + 1, by first | rfl | simp [hw], ⟨CI.out⟩, HO1, ⟨by exact BK.out⟩, ⟨by exact BG.out⟩, ⟨by repeat (first | exact HB.out | apply bA | apply bN | apply bD)⟩⟩
      case measure => have := CI.out; simp [walk_check.left, hw]; omega
   ·have cib : decide ((i : Int) < (ll.length : Int)) = false := decide_eq_false (by omega)
    have cib2 : decide (i < ll.length) = false := decide_eq_false ci
    have hO := HO.out
    rw [List.drop_eq_nil_of_le (by omega)] at hO
    have h := H.out
    rw [if_neg (by rw [← hO]; exact Bool.false_ne_true)] at h
    have HP0 := aS h
    have HI0 : Aside0 (q02 w wr g l0 a1) := ⟨⟨A0, c0, BG.out, GEg.out, HR.out⟩⟩
    clear ci hO h HO H HI BG BK
    go_wp2
    clear cib cib2
    go_loopw [38] (fun v W => ∃ i : Nat, v = .int .i64 (i : Int) ∧ Aside0 (i ≤ ll.length) ∧ Aside0 (walk_check.offR k l0 a1 (ll.drop i) = some r) ∧ Aside0 (q02 w W g l0 a1) ∧ Aside0 (Below w.heap.size w W)) (fun v _ => walk_check.left ll v)
    case atStart => exact ⟨0, rfl, ⟨Nat.zero_le _⟩, ⟨by rw [List.drop_zero]; exact HP0.out⟩, ⟨by repeat (first | exact HI0.out | apply q02.alloc | apply q02.drewN | apply q02.drew)⟩, ⟨by repeat (first | exact HB.out | apply bA | apply bN | apply bD)⟩⟩
    case round =>
     clear HI0 HB HP0
     obtain ⟨i, rfl, HI, HP, HI0, HB⟩ := hrel
     by_cases ci : i < ll.length
     ·have p1 : 0 ≤ (i : Int) := Int.natCast_nonneg _
      have q1 : (i : Int) < (ll.length : Int) := by omega
      obtain ⟨ad, rfl, hx⟩ := Kd.at_int HRl.out (i : Int) p1 q1
      replace hx := (HB.out.cell (World.block_lt_of_cell? w _ hx)).trans hx
      rw [show ((i : Int)).toNat = i from rfl] at hx
      have cib : decide ((i : Int) < (ll.length : Int)) = true := decide_eq_true q1
      have cib2 : decide (i < ll.length) = true := decide_eq_true ci
      replace p1 := eq_true p1
      replace q1 := eq_true q1
      have hp := HP.out
      rw [walk_check.dropL ll i ci, walk_check.offR] at hp
      obtain ⟨⟨pl, pq⟩, hpa, hp⟩ := Option.bind_eq_some_iff.1 hp
      have hw : wrap64 ((i : Int) + 1) = ((i + 1 : Nat) : Int) := by have := HRL.out; unfold wrap64; omega
      have CI := aS ci
      clear ci
      by_cases hc : 0 < pl.length ∧ pq = a1
      ·obtain ⟨hc, rfl⟩ := hc
       rw [if_pos ⟨hc, rfl⟩] at hp
       have HA := aS hpa
       clear hpa
       have p2 : 0 ≤ (0 : Int) := by decide
       have q2 : (0 : Int) < (pl.length : Int) := by omega
       have q2b : 0 < pl.length := hc
       by_cases hz : rd pl 0 = 0
       ·rw [if_pos hz] at hp
        have HP1 := aS hp
        have hzb : (rd pl 0 != 0) = false := bne_eq_false_iff_eq.mpr hz
        clear hp HP hz
        go_wp2_with (go_at_call 76; refine (walk_walker_path.calls k g l0 pq (rd ll (i : Int)) pl pq w _ (by repeat (first | exact HI0.out | apply q02.alloc | apply q02.drewN | apply q02.drew)) (z7 HB.out) HA.out).mono ?_; rintro e w2 ⟨v0, rfl, ho, hI2, hb2, hk⟩; obtain ⟨Ao, co, eo⟩ := Kd.R_slice ho; subst eo; obtain ⟨ad2, e2, hy⟩ := Kd.at_int (Kd.R_reads' ho).2.2 0 p2 q2; subst e2; rw [show ((0 : Int)).toNat = 0 from rfl, show ad2.add 0 = ad2 from rfl] at hy; replace p2 := eq_true p2; replace q2 := eq_true q2; clear HI0 HB; have HI0 := aS hI2; have HB := aS hb2; clear hI2 hb2 hk ho)
        go_roundw
        case rel => exact ⟨i + 1, by first | rfl | simp [hw], ⟨CI.out⟩, HP1, ⟨by repeat (first | exact HI0.out | apply q02.alloc | apply q02.drewN | apply q02.drew)⟩, ⟨by repeat (first | exact HB.out | apply bA | apply bN | apply bD)⟩⟩
        case measure => have := CI.out; simp [walk_check.left, hw]; omega
       ·rw [if_neg hz] at hp
        obtain rfl := Option.some.inj hp
        have hzb : (rd pl 0 != 0) = true := bne_iff_ne.mpr hz
        clear hp HP hz
        go_wp2_with (go_at_call 76; refine (walk_walker_path.calls k g l0 pq (rd ll (i : Int)) pl pq w _ (by repeat (first | exact HI0.out | apply q02.alloc | apply q02.drewN | apply q02.drew)) (z7 HB.out) HA.out).mono ?_; rintro e w2 ⟨v0, rfl, ho, hI2, hb2, hk⟩; obtain ⟨Ao, co, eo⟩ := Kd.R_slice ho; subst eo; obtain ⟨ad2, e2, hy⟩ := Kd.at_int (Kd.R_reads' ho).2.2 0 p2 q2; subst e2; rw [show ((0 : Int)).toNat = 0 from rfl, show ad2.add 0 = ad2 from rfl] at hy; replace p2 := eq_true p2; replace q2 := eq_true q2; clear HI0 HB; have HI0 := aS hI2; have HB := aS hb2; clear hI2 hb2 hk ho)
        trace_state
        go_ret2
        exact ⟨by repeat (first | exact HB.out | apply bA | apply bN | apply bD), .inl ⟨by decide, rfl⟩⟩
      ·rw [if_neg hc] at hp
       cases hp
     ·have cib : decide ((i : Int) < (ll.length : Int)) = false := decide_eq_false (by omega)
      have cib2 : decide (i < ll.length) = false := decide_eq_false ci
      have hp := HP.out
      rw [List.drop_eq_nil_of_le (by omega), walk_check.offR] at hp
      obtain rfl := Option.some.inj hp
      clear ci hp HP HI
      go_wp2
      go_ret2
      exact ⟨by repeat (first | exact HB.out | apply bA | apply bN | apply bD), by first | exact .inr ⟨rfl, g, rfl, by repeat (first | exact HI0.out | apply q02.alloc | apply q02.drewN | apply q02.drew)⟩ | exact ⟨g, rfl, by repeat (first | exact HI0.out | apply q02.alloc | apply q02.drewN | apply q02.drew)⟩⟩
 ·rw [if_neg z0] at h
  obtain rfl := Option.some.inj h
  have z0b : (e0 != 0) = true := bne_iff_ne.mpr z0
  have Z0 := aS z0
  clear z0 h
  go_enter Tryd.func70, Tryd.ntmps70
  go_wp2_with (first
   | ((with_reducible refine q0g (N := 2) rfl ?_); refine q0n ?hg (N := 2) ?hd (cs := #[.slice A0 l0.length c0, .bool a1]) (t := 24) ?hr ?_; (case hd => rfl); (case hg => rfl); (case hr => first | (go_simp; done) | (go_simp; rfl)); intro gb hg wb hbox hb; have n0_ := aS (q01 (z7 HB.out) hb); have GEgb := aS (by rw [hg]; exact q0h (z7 HB.out) : w.heap.size ≤ gb); have BK := aS hbox; have hcz0 : wb.cell? ⟨gb, 0, none⟩ = some (.slice A0 l0.length c0) := (q05 BK.out 0).trans rfl; have hcz1 : wb.cell? ⟨gb, 1, none⟩ = some (.bool a1) := (q05 BK.out 1).trans rfl; clear HB; have HB := n0_; clear n0_ hg hbox hb)
   | (go_at_call 52; refine (dom_Check.calls k A0 c0 l0 a1 e0 _ (Kd.C_below HR.out (z7 HB.out)) HC.out HE.out).mono ?_; rintro e w1 ⟨rfl, hb⟩; replace HB := aS (q01 (z7 HB.out) hb); clear hb))
  go_ret2
  exact ⟨by repeat (first | exact HB.out | apply bA | apply bN | apply bD), .inl ⟨Z0.out, rfl⟩⟩
theorem Kd_C_nil (W : World) : Kd.C (Kd.int .i64) W none ([] : List Int).length [] := (Kd.R_reads' (Kd.R_nil (Kd.int .i64) 3 W 0 (fun _ => True))).2.2
theorem walk_check.calls0 (k : Nat) (A0 : Option Addr) (c0 : Nat) (l0 : List S43) (a1 : Bool) (Al : Option Addr) (cl : Nat) (ll : List Int) (w : World) (hr0 : Kd.C k43 w A0 l0.length l0) (hc0 : l0.length ≤ c0)
 (hrl : Kd.C (Kd.int .i64) w Al ll.length ll) (hcl : ll.length ≤ cl) (hll : ll.length ≤ 4611686018427387904) (h : walk_check.f k l0 a1 ll = some 0) :
 Calls Tryd.prog 70 #[.agg #[.slice A0 l0.length c0, .bool a1], .slice Al ll.length cl] w fun e w' => Below w.heap.size w w' ∧ ∃ g, e = .returned (.tuple #[.pointer (some ⟨g, 0, none⟩), .int .i64 0]) ∧ q02 w w' g l0 a1 :=
 (walk_check.calls k A0 c0 l0 a1 Al cl ll 0 w hr0 hc0 hrl hcl hll h).mono fun e w' ⟨hb, h1⟩ => ⟨hb, by
  rcases h1 with ⟨h1, _⟩ | ⟨_, h1⟩
  ·exact absurd rfl h1
  ·exact h1⟩
theorem walk_check.callsE (k : Nat) (A0 : Option Addr) (c0 : Nat) (l0 : List S43) (a1 : Bool) (Al : Option Addr) (cl : Nat) (ll : List Int) (r : Int) (hr : r ≠ 0) (w : World) (hr0 : Kd.C k43 w A0 l0.length l0) (hc0 : l0.length ≤ c0)
 (hrl : Kd.C (Kd.int .i64) w Al ll.length ll) (hcl : ll.length ≤ cl) (hll : ll.length ≤ 4611686018427387904) (h : walk_check.f k l0 a1 ll = some r) :
 Calls Tryd.prog 70 #[.agg #[.slice A0 l0.length c0, .bool a1], .slice Al ll.length cl] w fun e w' => Below w.heap.size w w' ∧ e = .returned (.tuple #[.pointer none, .int .i64 r]) :=
 (walk_check.calls k A0 c0 l0 a1 Al cl ll r w hr0 hc0 hrl hcl hll h).mono fun e w' ⟨hb, h1⟩ => ⟨hb, by
  rcases h1 with ⟨_, h1⟩ | ⟨h1, _⟩
  ·exact h1
  ·exact absurd h1 hr⟩
theorem walk_check.nil0 (k : Nat) (A0 : Option Addr) (c0 : Nat) (l0 : List S43) (a1 : Bool) (w : World) (hr0 : Kd.C k43 w A0 l0.length l0) (hc0 : l0.length ≤ c0) (h : walk_check.f k l0 a1 [] = some 0) :
 Calls Tryd.prog 70 #[.agg #[.slice A0 l0.length c0, .bool a1], .slice none 0 0] w fun e w' => Below w.heap.size w w' ∧ ∃ g, e = .returned (.tuple #[.pointer (some ⟨g, 0, none⟩), .int .i64 0]) ∧ q02 w w' g l0 a1 :=
 walk_check.calls0 k A0 c0 l0 a1 none 0 [] w hr0 hc0 (Kd_C_nil w) (by simp) (by simp) h
theorem walk_check.nilE (k : Nat) (A0 : Option Addr) (c0 : Nat) (l0 : List S43) (a1 : Bool) (r : Int) (hr : r ≠ 0) (w : World) (hr0 : Kd.C k43 w A0 l0.length l0) (hc0 : l0.length ≤ c0) (h : walk_check.f k l0 a1 [] = some r) :
 Calls Tryd.prog 70 #[.agg #[.slice A0 l0.length c0, .bool a1], .slice none 0 0] w fun e w' => Below w.heap.size w w' ∧ e = .returned (.tuple #[.pointer none, .int .i64 r]) :=
 walk_check.callsE k A0 c0 l0 a1 none 0 [] r hr w hr0 hc0 (Kd_C_nil w) (by simp) (by simp) h
theorem walk_check.offR_mono (k : Nat) (ns : List S43) (q : Bool) : ∀ ll, LeO (walk_check.offR k ns q ll) (walk_check.offR (k + 1) ns q ll)
 | [] => LeO.refl _
 | n :: t => LeO.bind (walk_walker_path.mono ns q n k) fun _ => LeO.ite (LeO.ite (walk_check.offR_mono k ns q t) (LeO.refl _)) (LeO.refl _)
theorem walk_check.mono (ns : List S43) (q : Bool) (ll : List Int) (k : Nat) : LeO (walk_check.f k ns q ll) (walk_check.f (k + 1) ns q ll) :=
 LeO.bind (dom_Check.mono ns q k) fun _ => LeO.ite (LeO.ite (LeO.refl _) (walk_check.offR_mono k ns q ll)) (LeO.refl _)
def slices_Index_int_int.l0 : Nat → List Int → Int → Int → Int → Option (Int)
 | 0, _, _, _, _ => none
 | k + 1, x0, x1, x7, x8 => if x8 < x7 then (if 0 ≤ x8 then (if x8 < (x0.length : Int) then (if x1 = (rd x0 x8) then (some x8) else (slices_Index_int_int.l0 k x0 x1 x7 (wrap64 (x8 + 1)))) else (none)) else (none)) else (some (-1))
def slices_Index_int_int.f (k : Nat) (l0 : List Int) (a1 : Int) : Option (Int) := slices_Index_int_int.l0 k l0 a1 (l0.length : Int) 0
theorem slices_Index_int_int.mono_l : ∀ k, (∀ y0 y1 y2 y3, LeO (slices_Index_int_int.l0 k y0 y1 y2 y3) (slices_Index_int_int.l0 (k + 1) y0 y1 y2 y3))
 | 0 => fun _ _ _ _ r h => by simp [slices_Index_int_int.l0] at h
 | k + 1 => by
  have ih0 := slices_Index_int_int.mono_l k
  ·intro y0 y1 y2 y3
   unfold slices_Index_int_int.l0
   repeat' first | with_reducible first | apply ih0 | exact LeO.refl _ | exact LeO.none _ | refine LeO.ite ?_ ?_ | refine LeO.bind ?_ (fun _ => ?_) | (first | apply ih0 | exact LeO.none _ | refine LeO.ite ?_ ?_ | refine LeO.bind ?_ (fun _ => ?_))
theorem slices_Index_int_int.mono : ∀ a0 a1 k, LeO (slices_Index_int_int.f k a0 a1) (slices_Index_int_int.f (k + 1) a0 a1) := by
 intro a0 a1 k
 have ih0 := slices_Index_int_int.mono_l k
 unfold slices_Index_int_int.f
 repeat' first | with_reducible first | apply ih0 | exact LeO.refl _ | exact LeO.none _ | refine LeO.ite ?_ ?_ | refine LeO.bind ?_ (fun _ => ?_) | (first | apply ih0 | exact LeO.none _ | refine LeO.ite ?_ ?_ | refine LeO.bind ?_ (fun _ => ?_))
set_option maxHeartbeats 8000000 in
set_option maxRecDepth 100000 in
theorem slices_Index_int_int.calls (k : Nat) (A0 : Option Addr) (c0 : Nat) (l0 : List Int) (a1 : Int) (r : Int) (w : World) (hr0 : Kd.C (Kd.int .i64) w A0 l0.length l0) (hc0 : l0.length ≤ c0) (h : slices_Index_int_int.f k l0 a1 = some r) :
 Calls Tryd.prog 77 #[.slice A0 l0.length c0, .int .i64 a1] w fun e w' => e = .returned (.int .i64 r) ∧ Drawn0 w w' := by
 have HR0 := aS hr0
 have HC0 := aS hc0
 clear hr0 hc0
 have H := h; clear h; unfold slices_Index_int_int.f at H
 have H' := aS H
 clear H
 go_enter Tryd.func77, Tryd.ntmps77
 go_wp2
 go_loopg [8] k (fun kq v8 w' => ∃ (x8_1 : Int), v8 = .int .i64 x8_1 ∧ Aside0 (slices_Index_int_int.l0 kq l0 a1 (l0.length : Int) x8_1 = some r) ∧ Aside0 (kq ≤ k) ∧ Drawn0 w w')
 case atStart => exact ⟨(0), zj, H', ⟨Nat.le_refl _⟩, by repeat (first | exact Drawn0.refl _ | apply Drawn0.step)⟩
 case round =>
  clear H'
  obtain ⟨x8_1, rfl, HA, HK1, ⟨m1, rfl⟩⟩ := hrel
  cases gk with
  | zero => exact absurd HA.out (by simp [slices_Index_int_int.l0])
  | succ k1 =>
   have H := HA.out
   clear HA
   simp only [slices_Index_int_int.l0] at H
   refine iT H ?p3 ?n3 <;> clear H
   case' p3 =>
    intro c3b0 H
    refine iLp H ?_; clear H; intro c4b0 H
    refine iTp H ?_; clear H; intro c5b0 H
    obtain ⟨ad198, e198, hx198_0, p198, q198⟩ := atIA HR0.out x8_1 za za
    cases e198
    refine iE H ?p6 ?n6 <;> clear H
   case' p6 => intro c6b0 c6b1 H
   case' n6 => intro c6 c6b0 c6b1 H
   case' n3 => intro c3b0 H
   case p6|n3 =>
    obtain rfl := Option.some.inj H
    go_wp2
    go_ret
    exact ⟨by first | rfl | (simp; done) | (simp [*]; done), by repeat (first | exact Drawn0.refl _ | apply Drawn0.step)⟩
   case n6 =>
    have H' := aS H
    clear H
    go_wp2
    go_roundg k1
    case measure => have := HK1.out; omega
    case rel => exact ⟨(wrap64 (x8_1 + 1)), zj, H', ⟨by have := HK1.out; omega⟩, by repeat (first | exact Drawn0.refl _ | apply Drawn0.step)⟩
def walk_walker_beside.f (k : Nat) (s0_0 : List (S43)) (s0_1 : Bool) (a1 : Int) (a2 : Int) : Option (Int × Bool) := if 0 ≤ a1 then (if a1 < (s0_0.length : Int) then (if ((q00 s0_0 a1).f4) < 0 then (some ((-1), s0_1)) else (if 0 ≤ ((q00 s0_0 a1).f4) then (if ((q00 s0_0 a1).f4) < (s0_0.length : Int) then ((slices_Index_int_int.f k ((q00 s0_0 ((q00 s0_0 a1).f4)).f5) a1).bind fun t201 => (if (wrap64 (t201 + a2)) < 0 then (some ((-1), s0_1)) else (if (wrap64 (t201 + a2)) ≥ (((q00 s0_0 ((q00 s0_0 a1).f4)).f5).length : Int) then (some ((-1), s0_1)) else (if 0 ≤ (wrap64 (t201 + a2)) then (if (wrap64 (t201 + a2)) < (((q00 s0_0 ((q00 s0_0 a1).f4)).f5).length : Int) then (some (rd ((q00 s0_0 ((q00 s0_0 a1).f4)).f5) (wrap64 (t201 + a2)), s0_1)) else (none)) else (none))))) else (none)) else (none))) else (none)) else (none)
theorem walk_walker_beside.mono : ∀ a0 a1 a2 a3 k, LeO (walk_walker_beside.f k a0 a1 a2 a3) (walk_walker_beside.f (k + 1) a0 a1 a2 a3) := by
 intro a0 a1 a2 a3 k
 unfold walk_walker_beside.f
 repeat' first | with_reducible first | apply slices_Index_int_int.mono | exact LeO.refl _ | exact LeO.none _ | refine LeO.ite ?_ ?_ | refine LeO.bind ?_ (fun _ => ?_) | (first | apply slices_Index_int_int.mono | exact LeO.none _ | refine LeO.ite ?_ ?_ | refine LeO.bind ?_ (fun _ => ?_))
set_option maxHeartbeats 8000000 in
set_option maxRecDepth 100000 in
theorem walk_walker_beside.calls (k : Nat) (g : Nat) (s0_0 : List (S43)) (s0_1 : Bool) (a1 : Int) (a2 : Int) (r1 : Int) (r2 : Bool) (w0 w : World) (hI : q02 w0 w g s0_0 s0_1) (hB : Below w0.heap.size w0 w) (h : walk_walker_beside.f k s0_0 s0_1 a1 a2 = some (r1, r2)) :
 Calls Tryd.prog 119 #[.pointer (some ⟨g, 0, none⟩), .int .i64 a1, .int .i64 a2] w fun e w' => e = .returned (.int .i64 r1) ∧ q02 w0 w' g s0_0 r2 ∧ Below w0.heap.size w0 w' ∧ q08 w w' g none := by
 have HI0 := aS hI
 have HK := aS (q08.refl w g none)
 have HL := aS hB.size
 clear hI
 have HW0 := aS hB.size
 have HB := aS hB
 clear hB
 have H := h; clear h; unfold walk_walker_beside.f at H
 obtain ⟨ASzL_0, cSzL_0, HGzL, hgzL, HSzL_0⟩ := HI0.out
 have hczL_0 := cellS116_0 HGzL
 have hczL_1 := cellS116_1 HGzL
 have hfzL_1 := q0w HGzL 1
 clear HGzL hgzL
 refine iLp H ?_; clear H; intro c4b0 H
 refine iTp H ?_; clear H; intro c5b0 H
 refine iT H ?p6 ?n6 <;> clear H
 case' p6 => intro c6b0 H
 case' n6 => intro c6b0 H; refine iLp H ?_; clear H; intro c8b0 H; refine iTp H ?_; clear H; intro c9b0 H; replace H := iB H; obtain ⟨t201, A10, H⟩ := H; refine iT H ?p11 ?n11 <;> clear H
 case' p11 => intro c11b0 H
 case' n11 => intro c11b0 H; refine iL H ?p13 ?n13 <;> clear H
 case' p13 => intro c13b0 H
 case' n13 =>
  intro c13b0 H
  obtain ⟨ji15, hji15⟩ : ∃ j_ : Int, (wrap64 (t201 + a2)) = j_ := ⟨_, rfl⟩
  replace H : (if 0 ≤ (ji15) then (if (ji15) < (((q00 s0_0 ((q00 s0_0 a1).f4)).f5).length : Int) then (some (rd ((q00 s0_0 ((q00 s0_0 a1).f4)).f5) (ji15), s0_1)) else (none)) else (none)) = some (r1, r2) := by first | (rw [hji15] at H; exact H) | (simp only [hji15] at H ⊢; exact H)
  (try rw [hji15] at c11b0)
  (try rw [hji15] at c13b0)
  (try rw [hji15] at A10)
  have hji15w : (IntKind.i64.wrap (t201 + a2)) = ji15 := (q0p _).trans hji15
  refine iLp H ?_; clear H; intro c16b0 H
  refine iTp H ?_; clear H; intro c17b0 H
 case p6 =>
  simp only [Option.some.injEq, Prod.mk.injEq] at H
  obtain ⟨rfl, rfl⟩ := H
  obtain ⟨ad199, A199_2, c199_2, A199_5, c199_5, e199, hx199_0, hx199_1, hx199_2, hx199_3, hx199_4, hx199_5, HC199_2, HR199_2, HC199_5, HR199_5, p199, q199⟩ := q0m HB.out HSzL_0 a1 za za
  cases e199
  go_enter Tryd.func119, Tryd.ntmps119
  go_wp2
  go_ret
  exact ⟨by first | rfl | (simp [q04, q03] <;> rfl) | (simp [*, q04, q03] <;> rfl), by repeat (first | (with_reducible first | exact HI0.out | apply q02.alloc | apply q02.drewN | apply q02.drew | apply q02.set_1) | exact HI0.out), by repeat (first | (with_reducible first | exact HB.out | apply bA | apply bN | apply bD | refine bS ?_ (q02.ge HI0.out)) | exact HB.out), by repeat (first | (with_reducible first | exact HK.out | apply q08.set_ | apply q0b | apply q0f | apply q0c) | exact HK.out)⟩
 case p11|p13 =>
  simp only [Option.some.injEq, Prod.mk.injEq] at H
  obtain ⟨rfl, rfl⟩ := H
  obtain ⟨ad199, A199_2, c199_2, A199_5, c199_5, e199, hx199_0, hx199_1, hx199_2, hx199_3, hx199_4, hx199_5, HC199_2, HR199_2, HC199_5, HR199_5, p199, q199⟩ := q0m HB.out HSzL_0 a1 za za
  cases e199
  obtain ⟨ad200, A200_2, c200_2, A200_5, c200_5, e200, hx200_0, hx200_1, hx200_2, hx200_3, hx200_4, hx200_5, HC200_2, HR200_2, HC200_5, HR200_5, p200, q200⟩ := q0m HB.out HSzL_0 ((q00 s0_0 a1).f4) za za
  obtain rfl : ad199 = ad200 := (by injection e200)
  go_enter Tryd.func119, Tryd.ntmps119
  go_wp2_with (first | ((with_reducible refine q06 (f := 77) rfl ?_); refine q0l (some 32) rfl rfl Tryd.func77 (by kernel_rfl) rfl #[.slice A200_5 ((q00 s0_0 ((q00 s0_0 a1).f4)).f5).length c200_5, .int .i64 a1] rfl zd ?_; (with_reducible refine (slices_Index_int_int.calls k _ _ ((q00 s0_0 ((q00 s0_0 a1).f4)).f5) a1 t201 _ ?side1 ?side2 A10.out).mono ?_); (case side1 => exact (Kd.C_below HR200_5.out (z6 HB.out))); (case side2 => exact HC200_5.out); rintro e w' ⟨rfl, ⟨nd, rfl⟩⟩; refine ⟨_, rfl, ?_⟩))
  go_ret
  exact ⟨by first | rfl | (simp [q04, q03] <;> rfl) | (simp [*, q04, q03] <;> rfl), by repeat (first | (with_reducible first | exact HI0.out | apply q02.alloc | apply q02.drewN | apply q02.drew | apply q02.set_1) | exact HI0.out), by repeat (first | (with_reducible first | exact HB.out | apply bA | apply bN | apply bD | refine bS ?_ (q02.ge HI0.out)) | exact HB.out), by repeat (first | (with_reducible first | exact HK.out | apply q08.set_ | apply q0b | apply q0f | apply q0c) | exact HK.out)⟩
 case n13 =>
  simp only [Option.some.injEq, Prod.mk.injEq] at H
  obtain ⟨rfl, rfl⟩ := H
  obtain ⟨ad199, A199_2, c199_2, A199_5, c199_5, e199, hx199_0, hx199_1, hx199_2, hx199_3, hx199_4, hx199_5, HC199_2, HR199_2, HC199_5, HR199_5, p199, q199⟩ := q0m HB.out HSzL_0 a1 za za
  cases e199
  obtain ⟨ad200, A200_2, c200_2, A200_5, c200_5, e200, hx200_0, hx200_1, hx200_2, hx200_3, hx200_4, hx200_5, HC200_2, HR200_2, HC200_5, HR200_5, p200, q200⟩ := q0m HB.out HSzL_0 ((q00 s0_0 a1).f4) za za
  obtain rfl : ad199 = ad200 := (by injection e200)
  go_enter Tryd.func119, Tryd.ntmps119
  go_wp2_with (first | ((with_reducible refine q06 (f := 77) rfl ?_); refine q0l (some 32) rfl rfl Tryd.func77 (by kernel_rfl) rfl #[.slice A200_5 ((q00 s0_0 ((q00 s0_0 a1).f4)).f5).length c200_5, .int .i64 a1] rfl zd ?_; (with_reducible refine (slices_Index_int_int.calls k _ _ ((q00 s0_0 ((q00 s0_0 a1).f4)).f5) a1 t201 _ ?side1 ?side2 A10.out).mono ?_); (case side1 => exact (Kd.C_below HR200_5.out (z6 HB.out))); (case side2 => exact HC200_5.out); rintro e w' ⟨rfl, ⟨nd, rfl⟩⟩; refine ⟨_, rfl, ?_⟩; obtain ⟨ad202, e202, hx202_0, p202, q202⟩ := atIB HB.out HR200_5.out (ji15) za za; cases e202))
  go_ret
  exact ⟨by first | rfl | (simp [q04, q03] <;> rfl) | (simp only [← hji15]; first | rfl | (simp [q04, q03] <;> rfl)) | (simp [*, q04, q03] <;> rfl), by repeat (first | (with_reducible first | exact HI0.out | apply q02.alloc | apply q02.drewN | apply q02.drew | apply q02.set_1) | exact HI0.out), by repeat (first | (with_reducible first | exact HB.out | apply bA | apply bN | apply bD | refine bS ?_ (q02.ge HI0.out)) | exact HB.out), by repeat (first | (with_reducible first | exact HK.out | apply q08.set_ | apply q0b | apply q0f | apply q0c) | exact HK.out)⟩
def walk_walker_over.l0 : Nat → Int → List (S43) → Bool → Option (Int × Bool)
 | 0, _, _, _ => none
 | k + 1, x1, x1000, x1001 => if x1 ≥ 0 then ((walk_walker_beside.f k x1000 x1001 x1 1).bind fun bt203 => (if bt203.1 ≥ 0 then (some (bt203.1, bt203.2)) else (if 0 ≤ x1 then (if x1 < (x1000.length : Int) then (walk_walker_over.l0 k ((q00 x1000 x1).f4) x1000 bt203.2) else (none)) else (none)))) else (some ((-1), x1001))
def walk_walker_over.f (k : Nat) (s0_0 : List (S43)) (s0_1 : Bool) (a1 : Int) : Option (Int × Bool) := walk_walker_over.l0 k a1 s0_0 s0_1
theorem walk_walker_over.mono_l : ∀ k, (∀ y0 y1 y2, LeO (walk_walker_over.l0 k y0 y1 y2) (walk_walker_over.l0 (k + 1) y0 y1 y2))
 | 0 => fun _ _ _ r h => by simp [walk_walker_over.l0] at h
 | k + 1 => by
  have ih0 := walk_walker_over.mono_l k
  ·intro y0 y1 y2
   unfold walk_walker_over.l0
   repeat' first | with_reducible first | apply ih0 | apply walk_walker_beside.mono | exact LeO.refl _ | exact LeO.none _ | refine LeO.ite ?_ ?_ | refine LeO.bind ?_ (fun _ => ?_) | (first | apply ih0 | apply walk_walker_beside.mono | exact LeO.none _ | refine LeO.ite ?_ ?_ | refine LeO.bind ?_ (fun _ => ?_))
theorem walk_walker_over.mono : ∀ a0 a1 a2 k, LeO (walk_walker_over.f k a0 a1 a2) (walk_walker_over.f (k + 1) a0 a1 a2) := by
 intro a0 a1 a2 k
 have ih0 := walk_walker_over.mono_l k
 unfold walk_walker_over.f
 repeat' first | with_reducible first | apply ih0 | apply walk_walker_beside.mono | exact LeO.refl _ | exact LeO.none _ | refine LeO.ite ?_ ?_ | refine LeO.bind ?_ (fun _ => ?_) | (first | apply ih0 | apply walk_walker_beside.mono | exact LeO.none _ | refine LeO.ite ?_ ?_ | refine LeO.bind ?_ (fun _ => ?_))
set_option maxHeartbeats 8000000 in
set_option maxRecDepth 100000 in
theorem walk_walker_over.calls (k : Nat) (g : Nat) (s0_0 : List (S43)) (s0_1 : Bool) (a1 : Int) (r1 : Int) (r2 : Bool) (w0 w : World) (hI : q02 w0 w g s0_0 s0_1) (hB : Below w0.heap.size w0 w) (h : walk_walker_over.f k s0_0 s0_1 a1 = some (r1, r2)) :
 Calls Tryd.prog 117 #[.pointer (some ⟨g, 0, none⟩), .int .i64 a1] w fun e w' => e = .returned (.int .i64 r1) ∧ q02 w0 w' g s0_0 r2 ∧ Below w0.heap.size w0 w' ∧ q08 w w' g none := by
 have HI0 := aS hI
 have HK := aS (q08.refl w g none)
 have HL := aS hB.size
 clear hI
 have HW0 := aS hB.size
 have HB := aS hB
 clear hB
 have H := h; clear h; unfold walk_walker_over.f at H
 have H' := aS H
 clear H
 go_enter Tryd.func117, Tryd.ntmps117
 go_wp2
 go_loopg [1] k (fun kq v1 w' => ∃ (x1_1 : Int) (x1001_1 : Bool), v1 = .int .i64 x1_1 ∧ Aside0 (walk_walker_over.l0 kq x1_1 s0_0 x1001_1 = some (r1, r2)) ∧ Aside0 (kq ≤ k) ∧ Aside0 (q02 w0 w' g s0_0 x1001_1) ∧ Aside0 (q08 w w' g none) ∧ Aside0 (Below w0.heap.size w0 w'))
 case atStart => exact ⟨(a1), (s0_1), zj, H', ⟨Nat.le_refl _⟩, ⟨by repeat (first | (with_reducible first | exact HI0.out | apply q02.alloc | apply q02.drewN | apply q02.drew | apply q02.set_1) | exact HI0.out)⟩, ⟨by repeat (first | (with_reducible first | exact HK.out | apply q08.set_ | apply q0b | apply q0f | apply q0c) | exact HK.out)⟩, ⟨by repeat (first | (with_reducible first | exact HB.out | apply bA | apply bN | apply bD | refine bS ?_ (q02.ge HI0.out)) | exact HB.out)⟩⟩
 case round =>
  clear H'
  obtain ⟨x1_1, x1001_1, rfl, HA, HK1, HI0, HK, HB⟩ := hrel
  cases gk with
  | zero => exact absurd HA.out (by simp [walk_walker_over.l0])
  | succ k1 =>
   have H := HA.out
   clear HA
   simp only [walk_walker_over.l0] at H
   refine iL H ?p3 ?n3 <;> clear H
   case' p3 => intro c3b0 H; replace H := iB H; obtain ⟨⟨t203, t204⟩, A4, H⟩ := H; try dsimp only at H; refine iL H ?p5 ?n5 <;> clear H
   case' p5 => intro c5b0 H
   case' n5 => intro c5b0 H; refine iLp H ?_; clear H; intro c7b0 H; refine iTp H ?_; clear H; intro c8b0 H
   case' n3 => intro c3b0 H
   case p5 =>
    simp only [Option.some.injEq, Prod.mk.injEq] at H
    obtain ⟨rfl, rfl⟩ := H
    go_wp2_with (first | ((with_reducible refine q06 (f := 119) rfl ?_); refine q0l (some 19) rfl rfl Tryd.func119 (by kernel_rfl) rfl #[.pointer (some ⟨g, 0, none⟩), .int .i64 x1_1, .int .i64 1] rfl zd ?_; (with_reducible refine (walk_walker_beside.calls k1 g s0_0 x1001_1 x1_1 1 t203 t204 w0 _ ?side1 ?side2 A4.out).mono ?_); (case side1 => repeat (first | (with_reducible first | exact HI0.out | apply q02.alloc | apply q02.drewN | apply q02.drew | apply q02.set_1) | exact HI0.out)); (case side2 => repeat (first | (with_reducible first | exact HB.out | apply bA | apply bN | apply bD | refine bS ?_ (q02.ge HI0.out)) | exact HB.out)); rintro e w6 ⟨rfl, hi, hb, hk⟩; refine ⟨_, rfl, ?_⟩; replace HK := aS (q08.trans (by repeat (first | (with_reducible first | exact HK.out | apply q08.set_ | apply q0b | apply q0f | apply q0c) | exact HK.out)) hk (.inl rfl)); replace HI0 := aS (hi); replace HB := aS (hb); (try clear hb); (try clear hb2); (try clear hk); (try clear hi)))
    go_ret
    exact ⟨by first | rfl | (simp [q04, q03] <;> rfl) | (simp [*, q04, q03] <;> rfl), by repeat (first | (with_reducible first | exact HI0.out | apply q02.alloc | apply q02.drewN | apply q02.drew | apply q02.set_1) | exact HI0.out), by repeat (first | (with_reducible first | exact HB.out | apply bA | apply bN | apply bD | refine bS ?_ (q02.ge HI0.out)) | exact HB.out), by repeat (first | (with_reducible first | exact HK.out | apply q08.set_ | apply q0b | apply q0f | apply q0c) | exact HK.out)⟩
   case n5 =>
    have H' := aS H
    clear H
    go_wp2_with (first | ((with_reducible refine q06 (f := 119) rfl ?_); refine q0l (some 19) rfl rfl Tryd.func119 (by kernel_rfl) rfl #[.pointer (some ⟨g, 0, none⟩), .int .i64 x1_1, .int .i64 1] rfl zd ?_; (with_reducible refine (walk_walker_beside.calls k1 g s0_0 x1001_1 x1_1 1 t203 t204 w0 _ ?side1 ?side2 A4.out).mono ?_); (case side1 => repeat (first | (with_reducible first | exact HI0.out | apply q02.alloc | apply q02.drewN | apply q02.drew | apply q02.set_1) | exact HI0.out)); (case side2 => repeat (first | (with_reducible first | exact HB.out | apply bA | apply bN | apply bD | refine bS ?_ (q02.ge HI0.out)) | exact HB.out)); rintro e w9 ⟨rfl, hi, hb, hk⟩; refine ⟨_, rfl, ?_⟩; replace HK := aS (q08.trans (by repeat (first | (with_reducible first | exact HK.out | apply q08.set_ | apply q0b | apply q0f | apply q0c) | exact HK.out)) hk (.inl rfl)); replace HI0 := aS (hi); replace HB := aS (hb); (try clear hb); (try clear hb2); (try clear hk); (try clear hi); obtain ⟨ASzL_0, cSzL_0, HGzL, hgzL, HSzL_0⟩ := HI0.out; have hczL_0 := cellS116_0 HGzL; have hczL_1 := cellS116_1 HGzL; have hfzL_1 := q0w HGzL 1; clear HGzL hgzL; obtain ⟨ad205, A205_2, c205_2, A205_5, c205_5, e205, hx205_0, hx205_1, hx205_2, hx205_3, hx205_4, hx205_5, HC205_2, HR205_2, HC205_5, HR205_5, p205, q205⟩ := q0m HB.out HSzL_0 x1_1 za za; cases e205))
    go_roundg k1
    case measure => have := HK1.out; omega
    case rel => exact ⟨((q00 s0_0 x1_1).f4), (t204), zj, H', ⟨by have := HK1.out; omega⟩, ⟨by repeat (first | (with_reducible first | exact HI0.out | apply q02.alloc | apply q02.drewN | apply q02.drew | apply q02.set_1) | exact HI0.out)⟩, ⟨by repeat (first | (with_reducible first | exact HK.out | apply q08.set_ | apply q0b | apply q0f | apply q0c) | exact HK.out)⟩, ⟨by repeat (first | (with_reducible first | exact HB.out | apply bA | apply bN | apply bD | refine bS ?_ (q02.ge HI0.out)) | exact HB.out)⟩⟩
   case n3 =>
    simp only [Option.some.injEq, Prod.mk.injEq] at H
    obtain ⟨rfl, rfl⟩ := H
    go_wp2
    go_ret
    exact ⟨by first | rfl | (simp [q04, q03] <;> rfl) | (simp [*, q04, q03] <;> rfl), by repeat (first | (with_reducible first | exact HI0.out | apply q02.alloc | apply q02.drewN | apply q02.drew | apply q02.set_1) | exact HI0.out), by repeat (first | (with_reducible first | exact HB.out | apply bA | apply bN | apply bD | refine bS ?_ (q02.ge HI0.out)) | exact HB.out), by repeat (first | (with_reducible first | exact HK.out | apply q08.set_ | apply q0b | apply q0f | apply q0c) | exact HK.out)⟩
def walk_walker_kid.f (s0_0 : List (S43)) (s0_1 : Bool) (a1 : Int) (a2 : Bool) : Option (Int × Bool) := if 0 ≤ a1 then (if a1 < (s0_0.length : Int) then (if (((q00 s0_0 a1).f5).length : Int) = 0 then (some ((-1), s0_1)) else (if a2 = true then (if 0 ≤ (wrap64 ((((q00 s0_0 a1).f5).length : Int) - 1)) then (if (wrap64 ((((q00 s0_0 a1).f5).length : Int) - 1)) < (((q00 s0_0 a1).f5).length : Int) then (some (rd ((q00 s0_0 a1).f5) (wrap64 ((((q00 s0_0 a1).f5).length : Int) - 1)), s0_1)) else (none)) else (none)) else (if 0 < (((q00 s0_0 a1).f5).length : Int) then (some (rd ((q00 s0_0 a1).f5) 0, s0_1)) else (none)))) else (none)) else (none)
set_option maxHeartbeats 8000000 in
set_option maxRecDepth 100000 in
theorem walk_walker_kid.calls (g : Nat) (s0_0 : List (S43)) (s0_1 : Bool) (a1 : Int) (a2 : Bool) (r1 : Int) (r2 : Bool) (w0 w : World) (hI : q02 w0 w g s0_0 s0_1) (hB : Below w0.heap.size w0 w) (h : walk_walker_kid.f s0_0 s0_1 a1 a2 = some (r1, r2)) :
 Calls Tryd.prog 118 #[.pointer (some ⟨g, 0, none⟩), .int .i64 a1, .bool a2] w fun e w' => e = .returned (.int .i64 r1) ∧ q02 w0 w' g s0_0 r2 ∧ Below w0.heap.size w0 w' ∧ q08 w w' g none := by
 have HI0 := aS hI
 have HK := aS (q08.refl w g none)
 have HL := aS hB.size
 clear hI
 have HW0 := aS hB.size
 have HB := aS hB
 clear hB
 have H := h; clear h; unfold walk_walker_kid.f at H
 obtain ⟨ASzL_0, cSzL_0, HGzL, hgzL, HSzL_0⟩ := HI0.out
 have hczL_0 := cellS116_0 HGzL
 have hczL_1 := cellS116_1 HGzL
 have hfzL_1 := q0w HGzL 1
 clear HGzL hgzL
 refine iLp H ?_; clear H; intro c4b0 H
 refine iTp H ?_; clear H; intro c5b0 H
 refine iG H ?p6 ?n6 <;> clear H
 case' p6 => intro c6 H; have c6b0 : ((((q00 s0_0 a1).f5).length : Int) == 0) = true := beq_iff_eq.mpr c6; have c6b1 : ((((q00 s0_0 a1).f5).length : Int) != 0) = false := bne_eq_false_iff_eq.mpr c6; clear c6
 case' n6 => intro c6 H; have c6b0 : ((((q00 s0_0 a1).f5).length : Int) == 0) = false := beq_eq_false_iff_ne.mpr c6; have c6b1 : ((((q00 s0_0 a1).f5).length : Int) != 0) = true := bne_iff_ne.mpr c6; have c6b2 : ¬ (((q00 s0_0 a1).f5) = []) := fun h_ => c6 (by rw [h_]; rfl); refine iV H ?p8 ?n8 <;> clear H
 case' p8 =>
  intro c8 H; subst c8
  obtain ⟨ji9, hji9⟩ : ∃ j_ : Int, (wrap64 ((((q00 s0_0 a1).f5).length : Int) - 1)) = j_ := ⟨_, rfl⟩
  replace H : (if 0 ≤ (ji9) then (if (ji9) < (((q00 s0_0 a1).f5).length : Int) then (some (rd ((q00 s0_0 a1).f5) (ji9), s0_1)) else (none)) else (none)) = some (r1, r2) := by first | (rw [hji9] at H; exact H) | (simp only [hji9] at H ⊢; exact H)
  have hji9w : (IntKind.i64.wrap ((((q00 s0_0 a1).f5).length : Int) - 1)) = ji9 := (q0p _).trans hji9
  refine iLp H ?_; clear H; intro c10b0 H
  refine iTp H ?_; clear H; intro c11b0 H
 case' n8 => intro c8 H; subst c8; refine iTNp (m := 0) (n := ((q00 s0_0 a1).f5).length) H rfl rfl ?_; clear H; intro c13b0 c13b1 H
 case p6 =>
  simp only [Option.some.injEq, Prod.mk.injEq] at H
  obtain ⟨rfl, rfl⟩ := H
  obtain ⟨ad206, A206_2, c206_2, A206_5, c206_5, e206, hx206_0, hx206_1, hx206_2, hx206_3, hx206_4, hx206_5, HC206_2, HR206_2, HC206_5, HR206_5, p206, q206⟩ := q0m HB.out HSzL_0 a1 za za
  cases e206
  go_enter Tryd.func118, Tryd.ntmps118
  go_wp2
  go_ret
  exact ⟨by first | rfl | (simp [q04, q03] <;> rfl) | (simp [*, q04, q03] <;> rfl), by repeat (first | (with_reducible first | exact HI0.out | apply q02.alloc | apply q02.drewN | apply q02.drew | apply q02.set_1) | exact HI0.out), by repeat (first | (with_reducible first | exact HB.out | apply bA | apply bN | apply bD | refine bS ?_ (q02.ge HI0.out)) | exact HB.out), by repeat (first | (with_reducible first | exact HK.out | apply q08.set_ | apply q0b | apply q0f | apply q0c) | exact HK.out)⟩
 case p8 =>
  simp only [Option.some.injEq, Prod.mk.injEq] at H
  obtain ⟨rfl, rfl⟩ := H
  obtain ⟨ad206, A206_2, c206_2, A206_5, c206_5, e206, hx206_0, hx206_1, hx206_2, hx206_3, hx206_4, hx206_5, HC206_2, HR206_2, HC206_5, HR206_5, p206, q206⟩ := q0m HB.out HSzL_0 a1 za za
  cases e206
  obtain ⟨ad207, e207, hx207_0, p207, q207⟩ := atIB HB.out HR206_5.out (ji9) za za
  cases e207
  go_enter Tryd.func118, Tryd.ntmps118
  go_wp2
  go_ret
  exact ⟨by first | rfl | (simp [q04, q03] <;> rfl) | (simp only [← hji9]; first | rfl | (simp [q04, q03] <;> rfl)) | (simp [*, q04, q03] <;> rfl), by repeat (first | (with_reducible first | exact HI0.out | apply q02.alloc | apply q02.drewN | apply q02.drew | apply q02.set_1) | exact HI0.out), by repeat (first | (with_reducible first | exact HB.out | apply bA | apply bN | apply bD | refine bS ?_ (q02.ge HI0.out)) | exact HB.out), by repeat (first | (with_reducible first | exact HK.out | apply q08.set_ | apply q0b | apply q0f | apply q0c) | exact HK.out)⟩
 case n8 =>
  simp only [Option.some.injEq, Prod.mk.injEq] at H
  obtain ⟨rfl, rfl⟩ := H
  obtain ⟨ad206, A206_2, c206_2, A206_5, c206_5, e206, hx206_0, hx206_1, hx206_2, hx206_3, hx206_4, hx206_5, HC206_2, HR206_2, HC206_5, HR206_5, p206, q206⟩ := q0m HB.out HSzL_0 a1 za za
  cases e206
  have p208 : 0 ≤ (0 : Int) := (by omega)
  have q208 : 0 < (((q00 s0_0 a1).f5).length : Int) := od za
  obtain ⟨ad208, e208, hx208_0⟩ := Kd.at_int HR206_5.out 0 p208 q208
  cases e208
  have qi208 : (0 < ((q00 s0_0 a1).f5).length) = True := eq_true (by omega)
  (try rw [show ((0 : Int)).toNat = 0 from rfl] at hx208_0)
  (try rw [Addr.add_zero'] at hx208_0)
  replace hx208_0 := q09 HB.out hx208_0
  replace p208 := eq_true p208
  replace q208 := eq_true q208
  go_enter Tryd.func118, Tryd.ntmps118
  go_wp2
  go_ret
  exact ⟨by first | rfl | (simp [q04, q03] <;> rfl) | (simp [*, q04, q03] <;> rfl), by repeat (first | (with_reducible first | exact HI0.out | apply q02.alloc | apply q02.drewN | apply q02.drew | apply q02.set_1) | exact HI0.out), by repeat (first | (with_reducible first | exact HB.out | apply bA | apply bN | apply bD | refine bS ?_ (q02.ge HI0.out)) | exact HB.out), by repeat (first | (with_reducible first | exact HK.out | apply q08.set_ | apply q0b | apply q0f | apply q0c) | exact HK.out)⟩
def walk_walker_next.f (k : Nat) (s0_0 : List (S43)) (s0_1 : Bool) (a1 : Int) : Option (Int × Bool) := (walk_walker_kid.f s0_0 s0_1 a1 false).bind fun bt209 => (if bt209.1 ≥ 0 then (some (bt209.1, bt209.2)) else ((walk_walker_over.f k s0_0 bt209.2 a1).bind fun bt211 => (some (bt211.1, bt211.2))))
theorem walk_walker_next.mono : ∀ a0 a1 a2 k, LeO (walk_walker_next.f k a0 a1 a2) (walk_walker_next.f (k + 1) a0 a1 a2) := by
 intro a0 a1 a2 k
 unfold walk_walker_next.f
 repeat' first | with_reducible first | apply walk_walker_over.mono | exact LeO.refl _ | exact LeO.none _ | refine LeO.ite ?_ ?_ | refine LeO.bind ?_ (fun _ => ?_) | (first | apply walk_walker_over.mono | exact LeO.none _ | refine LeO.ite ?_ ?_ | refine LeO.bind ?_ (fun _ => ?_))
set_option maxHeartbeats 8000000 in
set_option maxRecDepth 100000 in
theorem walk_walker_next.calls (k : Nat) (g : Nat) (s0_0 : List (S43)) (s0_1 : Bool) (a1 : Int) (r1 : Int) (r2 : Bool) (w0 w : World) (hI : q02 w0 w g s0_0 s0_1) (hB : Below w0.heap.size w0 w) (h : walk_walker_next.f k s0_0 s0_1 a1 = some (r1, r2)) :
 Calls Tryd.prog 115 #[.pointer (some ⟨g, 0, none⟩), .int .i64 a1] w fun e w' => e = .returned (.int .i64 r1) ∧ q02 w0 w' g s0_0 r2 ∧ Below w0.heap.size w0 w' ∧ q08 w w' g none := by
 have HI0 := aS hI
 have HK := aS (q08.refl w g none)
 have HL := aS hB.size
 clear hI
 have HW0 := aS hB.size
 have HB := aS hB
 clear hB
 have H := h; clear h; unfold walk_walker_next.f at H
 replace H := iB H
 obtain ⟨⟨t209, t210⟩, A3, H⟩ := H
 try dsimp only at H
 refine iL H ?p4 ?n4 <;> clear H
 case' p4 => intro c4b0 H
 case' n4 => intro c4b0 H
 case p4 =>
  simp only [Option.some.injEq, Prod.mk.injEq] at H
  obtain ⟨rfl, rfl⟩ := H
  go_enter Tryd.func115, Tryd.ntmps115
  go_wp2_with (first | ((with_reducible refine q06 (f := 118) rfl ?_); refine q0l (some 8) rfl rfl Tryd.func118 (by kernel_rfl) rfl #[.pointer (some ⟨g, 0, none⟩), .int .i64 a1, .bool false] rfl zd ?_; (with_reducible refine (walk_walker_kid.calls g s0_0 s0_1 a1 false t209 t210 w0 _ ?side1 ?side2 A3.out).mono ?_); (case side1 => repeat (first | (with_reducible first | exact HI0.out | apply q02.alloc | apply q02.drewN | apply q02.drew | apply q02.set_1) | exact HI0.out)); (case side2 => repeat (first | (with_reducible first | exact HB.out | apply bA | apply bN | apply bD | refine bS ?_ (q02.ge HI0.out)) | exact HB.out)); rintro e w5 ⟨rfl, hi, hb, hk⟩; refine ⟨_, rfl, ?_⟩; replace HK := aS (q08.trans (by repeat (first | (with_reducible first | exact HK.out | apply q08.set_ | apply q0b | apply q0f | apply q0c) | exact HK.out)) hk (.inl rfl)); replace HI0 := aS (hi); replace HB := aS (hb); (try clear hb); (try clear hb2); (try clear hk); (try clear hi)))
  go_ret
  exact ⟨by first | rfl | (simp [q04, q03] <;> rfl) | (simp [*, q04, q03] <;> rfl), by repeat (first | (with_reducible first | exact HI0.out | apply q02.alloc | apply q02.drewN | apply q02.drew | apply q02.set_1) | exact HI0.out), by repeat (first | (with_reducible first | exact HB.out | apply bA | apply bN | apply bD | refine bS ?_ (q02.ge HI0.out)) | exact HB.out), by repeat (first | (with_reducible first | exact HK.out | apply q08.set_ | apply q0b | apply q0f | apply q0c) | exact HK.out)⟩
 case n4 =>
  replace H := iB H
  obtain ⟨⟨t211, t212⟩, A6, H⟩ := H
  try dsimp only at H
  simp only [Option.some.injEq, Prod.mk.injEq] at H
  obtain ⟨rfl, rfl⟩ := H
  go_enter Tryd.func115, Tryd.ntmps115
  go_wp2_with (first | ((with_reducible refine q06 (f := 118) rfl ?_); refine q0l (some 8) rfl rfl Tryd.func118 (by kernel_rfl) rfl #[.pointer (some ⟨g, 0, none⟩), .int .i64 a1, .bool false] rfl zd ?_; (with_reducible refine (walk_walker_kid.calls g s0_0 s0_1 a1 false t209 t210 w0 _ ?side1 ?side2 A3.out).mono ?_); (case side1 => repeat (first | (with_reducible first | exact HI0.out | apply q02.alloc | apply q02.drewN | apply q02.drew | apply q02.set_1) | exact HI0.out)); (case side2 => repeat (first | (with_reducible first | exact HB.out | apply bA | apply bN | apply bD | refine bS ?_ (q02.ge HI0.out)) | exact HB.out)); rintro e w7 ⟨rfl, hi, hb, hk⟩; refine ⟨_, rfl, ?_⟩; replace HK := aS (q08.trans (by repeat (first | (with_reducible first | exact HK.out | apply q08.set_ | apply q0b | apply q0f | apply q0c) | exact HK.out)) hk (.inl rfl)); replace HI0 := aS (hi); replace HB := aS (hb); (try clear hb); (try clear hb2); (try clear hk); (try clear hi)) | ((with_reducible refine q06 (f := 117) rfl ?_); refine q0l (some 14) rfl rfl Tryd.func117 (by kernel_rfl) rfl #[.pointer (some ⟨g, 0, none⟩), .int .i64 a1] rfl zd ?_; (with_reducible refine (walk_walker_over.calls k g s0_0 t210 a1 t211 t212 w0 _ ?side1 ?side2 A6.out).mono ?_); (case side1 => repeat (first | (with_reducible first | exact HI0.out | apply q02.alloc | apply q02.drewN | apply q02.drew | apply q02.set_1) | exact HI0.out)); (case side2 => repeat (first | (with_reducible first | exact HB.out | apply bA | apply bN | apply bD | refine bS ?_ (q02.ge HI0.out)) | exact HB.out)); rintro e w8 ⟨rfl, hi, hb, hk⟩; refine ⟨_, rfl, ?_⟩; replace HK := aS (q08.trans (by repeat (first | (with_reducible first | exact HK.out | apply q08.set_ | apply q0b | apply q0f | apply q0c) | exact HK.out)) hk (.inl rfl)); replace HI0 := aS (hi); replace HB := aS (hb); (try clear hb); (try clear hb2); (try clear hk); (try clear hi)))
  go_ret
  exact ⟨by first | rfl | (simp [q04, q03] <;> rfl) | (simp [*, q04, q03] <;> rfl), by repeat (first | (with_reducible first | exact HI0.out | apply q02.alloc | apply q02.drewN | apply q02.drew | apply q02.set_1) | exact HI0.out), by repeat (first | (with_reducible first | exact HB.out | apply bA | apply bN | apply bD | refine bS ?_ (q02.ge HI0.out)) | exact HB.out), by repeat (first | (with_reducible first | exact HK.out | apply q08.set_ | apply q0b | apply q0f | apply q0c) | exact HK.out)⟩
def walk_walker_last.l0 : Nat → Int → List (S43) → Bool → Option (Int × Bool)
 | 0, _, _, _ => none
 | k + 1, x5, x1000, x1001 => (walk_walker_kid.f x1000 x1001 x5 true).bind fun bt216 => (if bt216.1 ≥ 0 then ((walk_walker_kid.f x1000 bt216.2 x5 true).bind fun bt218 => (walk_walker_last.l0 k bt218.1 x1000 bt218.2)) else (some (x5, bt216.2)))
def walk_walker_last.f (k : Nat) (s0_0 : List (S43)) (s0_1 : Bool) (a1 : Int) : Option (Int × Bool) := (walk_walker_beside.f k s0_0 s0_1 a1 (-1)).bind fun bt213 => (if bt213.1 < 0 then (if 0 ≤ a1 then (if a1 < (s0_0.length : Int) then (some ((q00 s0_0 a1).f4, bt213.2)) else (none)) else (none)) else (walk_walker_last.l0 k bt213.1 s0_0 bt213.2))
theorem walk_walker_last.mono_l : ∀ k, (∀ y0 y1 y2, LeO (walk_walker_last.l0 k y0 y1 y2) (walk_walker_last.l0 (k + 1) y0 y1 y2))
 | 0 => fun _ _ _ r h => by simp [walk_walker_last.l0] at h
 | k + 1 => by
  have ih0 := walk_walker_last.mono_l k
  ·intro y0 y1 y2
   unfold walk_walker_last.l0
   repeat' first | with_reducible first | apply ih0 | apply walk_walker_beside.mono | exact LeO.refl _ | exact LeO.none _ | refine LeO.ite ?_ ?_ | refine LeO.bind ?_ (fun _ => ?_) | (first | apply ih0 | apply walk_walker_beside.mono | exact LeO.none _ | refine LeO.ite ?_ ?_ | refine LeO.bind ?_ (fun _ => ?_))
theorem walk_walker_last.mono : ∀ a0 a1 a2 k, LeO (walk_walker_last.f k a0 a1 a2) (walk_walker_last.f (k + 1) a0 a1 a2) := by
 intro a0 a1 a2 k
 have ih0 := walk_walker_last.mono_l k
 unfold walk_walker_last.f
 repeat' first | with_reducible first | apply ih0 | apply walk_walker_beside.mono | exact LeO.refl _ | exact LeO.none _ | refine LeO.ite ?_ ?_ | refine LeO.bind ?_ (fun _ => ?_) | (first | apply ih0 | apply walk_walker_beside.mono | exact LeO.none _ | refine LeO.ite ?_ ?_ | refine LeO.bind ?_ (fun _ => ?_))
set_option maxHeartbeats 8000000 in
set_option maxRecDepth 100000 in
theorem walk_walker_last.calls (k : Nat) (g : Nat) (s0_0 : List (S43)) (s0_1 : Bool) (a1 : Int) (r1 : Int) (r2 : Bool) (w0 w : World) (hI : q02 w0 w g s0_0 s0_1) (hB : Below w0.heap.size w0 w) (h : walk_walker_last.f k s0_0 s0_1 a1 = some (r1, r2)) :
 Calls Tryd.prog 116 #[.pointer (some ⟨g, 0, none⟩), .int .i64 a1] w fun e w' => e = .returned (.int .i64 r1) ∧ q02 w0 w' g s0_0 r2 ∧ Below w0.heap.size w0 w' ∧ q08 w w' g none := by
 have HI0 := aS hI
 have HK := aS (q08.refl w g none)
 have HL := aS hB.size
 clear hI
 have HW0 := aS hB.size
 have HB := aS hB
 clear hB
 have H := h; clear h; unfold walk_walker_last.f at H
 replace H := iB H
 obtain ⟨⟨t213, t214⟩, A3, H⟩ := H
 try dsimp only at H
 refine iT H ?p4 ?n4 <;> clear H
 case' p4 => intro c4b0 H; refine iLp H ?_; clear H; intro c5b0 H; refine iTp H ?_; clear H; intro c6b0 H
 case' n4 => intro c4b0 H
 case p4 =>
  simp only [Option.some.injEq, Prod.mk.injEq] at H
  obtain ⟨rfl, rfl⟩ := H
  go_enter Tryd.func116, Tryd.ntmps116
  go_wp2_with (first | ((with_reducible refine q06 (f := 119) rfl ?_); refine q0l (some 8) rfl rfl Tryd.func119 (by kernel_rfl) rfl #[.pointer (some ⟨g, 0, none⟩), .int .i64 a1, .int .i64 (-1)] rfl zd ?_; (with_reducible refine (walk_walker_beside.calls k g s0_0 s0_1 a1 (-1) t213 t214 w0 _ ?side1 ?side2 A3.out).mono ?_); (case side1 => repeat (first | (with_reducible first | exact HI0.out | apply q02.alloc | apply q02.drewN | apply q02.drew | apply q02.set_1) | exact HI0.out)); (case side2 => repeat (first | (with_reducible first | exact HB.out | apply bA | apply bN | apply bD | refine bS ?_ (q02.ge HI0.out)) | exact HB.out)); rintro e w7 ⟨rfl, hi, hb, hk⟩; refine ⟨_, rfl, ?_⟩; replace HK := aS (q08.trans (by repeat (first | (with_reducible first | exact HK.out | apply q08.set_ | apply q0b | apply q0f | apply q0c) | exact HK.out)) hk (.inl rfl)); replace HI0 := aS (hi); replace HB := aS (hb); (try clear hb); (try clear hb2); (try clear hk); (try clear hi); obtain ⟨ASzL_0, cSzL_0, HGzL, hgzL, HSzL_0⟩ := HI0.out; have hczL_0 := cellS116_0 HGzL; have hczL_1 := cellS116_1 HGzL; have hfzL_1 := q0w HGzL 1; clear HGzL hgzL; obtain ⟨ad215, A215_2, c215_2, A215_5, c215_5, e215, hx215_0, hx215_1, hx215_2, hx215_3, hx215_4, hx215_5, HC215_2, HR215_2, HC215_5, HR215_5, p215, q215⟩ := q0m HB.out HSzL_0 a1 za za; cases e215))
  go_ret
  exact ⟨by first | rfl | (simp [q04, q03] <;> rfl) | (simp [*, q04, q03] <;> rfl), by repeat (first | (with_reducible first | exact HI0.out | apply q02.alloc | apply q02.drewN | apply q02.drew | apply q02.set_1) | exact HI0.out), by repeat (first | (with_reducible first | exact HB.out | apply bA | apply bN | apply bD | refine bS ?_ (q02.ge HI0.out)) | exact HB.out), by repeat (first | (with_reducible first | exact HK.out | apply q08.set_ | apply q0b | apply q0f | apply q0c) | exact HK.out)⟩
 case n4 =>
  have H' := aS H
  clear H
  go_enter Tryd.func116, Tryd.ntmps116
  go_wp2_with (first | ((with_reducible refine q06 (f := 119) rfl ?_); refine q0l (some 8) rfl rfl Tryd.func119 (by kernel_rfl) rfl #[.pointer (some ⟨g, 0, none⟩), .int .i64 a1, .int .i64 (-1)] rfl zd ?_; (with_reducible refine (walk_walker_beside.calls k g s0_0 s0_1 a1 (-1) t213 t214 w0 _ ?side1 ?side2 A3.out).mono ?_); (case side1 => repeat (first | (with_reducible first | exact HI0.out | apply q02.alloc | apply q02.drewN | apply q02.drew | apply q02.set_1) | exact HI0.out)); (case side2 => repeat (first | (with_reducible first | exact HB.out | apply bA | apply bN | apply bD | refine bS ?_ (q02.ge HI0.out)) | exact HB.out)); rintro e w9 ⟨rfl, hi, hb, hk⟩; refine ⟨_, rfl, ?_⟩; replace HK := aS (q08.trans (by repeat (first | (with_reducible first | exact HK.out | apply q08.set_ | apply q0b | apply q0f | apply q0c) | exact HK.out)) hk (.inl rfl)); replace HI0 := aS (hi); replace HB := aS (hb); (try clear hb); (try clear hb2); (try clear hk); (try clear hi)))
  go_loopg [5] k (fun kq v5 w' => ∃ (x5_1 : Int) (x1001_1 : Bool), v5 = .int .i64 x5_1 ∧ Aside0 (walk_walker_last.l0 kq x5_1 s0_0 x1001_1 = some (r1, r2)) ∧ Aside0 (kq ≤ k) ∧ Aside0 (q02 w0 w' g s0_0 x1001_1) ∧ Aside0 (q08 w w' g none) ∧ Aside0 (Below w0.heap.size w0 w'))
  case atStart => exact ⟨(t213), (t214), zj, H', ⟨Nat.le_refl _⟩, ⟨by repeat (first | (with_reducible first | exact HI0.out | apply q02.alloc | apply q02.drewN | apply q02.drew | apply q02.set_1) | exact HI0.out)⟩, ⟨by repeat (first | (with_reducible first | exact HK.out | apply q08.set_ | apply q0b | apply q0f | apply q0c) | exact HK.out)⟩, ⟨by repeat (first | (with_reducible first | exact HB.out | apply bA | apply bN | apply bD | refine bS ?_ (q02.ge HI0.out)) | exact HB.out)⟩⟩
  case round =>
   clear H'
   obtain ⟨x5_1, x1001_1, rfl, HA, HK1, HI0, HK, HB⟩ := hrel
   cases gk with
   | zero => exact absurd HA.out (by simp [walk_walker_last.l0])
   | succ k1 =>
    have H := HA.out
    clear HA
    simp only [walk_walker_last.l0] at H
    replace H := iB H
    obtain ⟨⟨t216, t217⟩, A10, H⟩ := H
    try dsimp only at H
    refine iL H ?p11 ?n11 <;> clear H
    case' p11 => intro c11b0 H
    case' n11 => intro c11b0 H
    case p11 =>
     replace H := iB H
     obtain ⟨⟨t218, t219⟩, A12, H⟩ := H
     try dsimp only at H
     have H' := aS H
     clear H
     go_wp2_with (first | ((with_reducible refine q06 (f := 118) rfl ?_); refine q0l (some 22) rfl rfl Tryd.func118 (by kernel_rfl) rfl #[.pointer (some ⟨g, 0, none⟩), .int .i64 x5_1, .bool true] rfl zd ?_; (with_reducible refine (walk_walker_kid.calls g s0_0 x1001_1 x5_1 true t216 t217 w0 _ ?side1 ?side2 A10.out).mono ?_); (case side1 => repeat (first | (with_reducible first | exact HI0.out | apply q02.alloc | apply q02.drewN | apply q02.drew | apply q02.set_1) | exact HI0.out)); (case side2 => repeat (first | (with_reducible first | exact HB.out | apply bA | apply bN | apply bD | refine bS ?_ (q02.ge HI0.out)) | exact HB.out)); rintro e w13 ⟨rfl, hi, hb, hk⟩; refine ⟨_, rfl, ?_⟩; replace HK := aS (q08.trans (by repeat (first | (with_reducible first | exact HK.out | apply q08.set_ | apply q0b | apply q0f | apply q0c) | exact HK.out)) hk (.inl rfl)); replace HI0 := aS (hi); replace HB := aS (hb); (try clear hb); (try clear hb2); (try clear hk); (try clear hi)) | ((with_reducible refine q06 (f := 118) rfl ?_); refine q0l (some 26) rfl rfl Tryd.func118 (by kernel_rfl) rfl #[.pointer (some ⟨g, 0, none⟩), .int .i64 x5_1, .bool true] rfl zd ?_; (with_reducible refine (walk_walker_kid.calls g s0_0 t217 x5_1 true t218 t219 w0 _ ?side1 ?side2 A12.out).mono ?_); (case side1 => repeat (first | (with_reducible first | exact HI0.out | apply q02.alloc | apply q02.drewN | apply q02.drew | apply q02.set_1) | exact HI0.out)); (case side2 => repeat (first | (with_reducible first | exact HB.out | apply bA | apply bN | apply bD | refine bS ?_ (q02.ge HI0.out)) | exact HB.out)); rintro e w14 ⟨rfl, hi, hb, hk⟩; refine ⟨_, rfl, ?_⟩; replace HK := aS (q08.trans (by repeat (first | (with_reducible first | exact HK.out | apply q08.set_ | apply q0b | apply q0f | apply q0c) | exact HK.out)) hk (.inl rfl)); replace HI0 := aS (hi); replace HB := aS (hb); (try clear hb); (try clear hb2); (try clear hk); (try clear hi)))
     go_roundg k1
     case measure => have := HK1.out; omega
     case rel => exact ⟨(t218), (t219), zj, H', ⟨by have := HK1.out; omega⟩, ⟨by repeat (first | (with_reducible first | exact HI0.out | apply q02.alloc | apply q02.drewN | apply q02.drew | apply q02.set_1) | exact HI0.out)⟩, ⟨by repeat (first | (with_reducible first | exact HK.out | apply q08.set_ | apply q0b | apply q0f | apply q0c) | exact HK.out)⟩, ⟨by repeat (first | (with_reducible first | exact HB.out | apply bA | apply bN | apply bD | refine bS ?_ (q02.ge HI0.out)) | exact HB.out)⟩⟩
    case n11 =>
     simp only [Option.some.injEq, Prod.mk.injEq] at H
     obtain ⟨rfl, rfl⟩ := H
     go_wp2_with (first | ((with_reducible refine q06 (f := 118) rfl ?_); refine q0l (some 22) rfl rfl Tryd.func118 (by kernel_rfl) rfl #[.pointer (some ⟨g, 0, none⟩), .int .i64 x5_1, .bool true] rfl zd ?_; (with_reducible refine (walk_walker_kid.calls g s0_0 x1001_1 x5_1 true t216 t217 w0 _ ?side1 ?side2 A10.out).mono ?_); (case side1 => repeat (first | (with_reducible first | exact HI0.out | apply q02.alloc | apply q02.drewN | apply q02.drew | apply q02.set_1) | exact HI0.out)); (case side2 => repeat (first | (with_reducible first | exact HB.out | apply bA | apply bN | apply bD | refine bS ?_ (q02.ge HI0.out)) | exact HB.out)); rintro e w15 ⟨rfl, hi, hb, hk⟩; refine ⟨_, rfl, ?_⟩; replace HK := aS (q08.trans (by repeat (first | (with_reducible first | exact HK.out | apply q08.set_ | apply q0b | apply q0f | apply q0c) | exact HK.out)) hk (.inl rfl)); replace HI0 := aS (hi); replace HB := aS (hb); (try clear hb); (try clear hb2); (try clear hk); (try clear hi)))
     go_ret
     exact ⟨by first | rfl | (simp [q04, q03] <;> rfl) | (simp [*, q04, q03] <;> rfl), by repeat (first | (with_reducible first | exact HI0.out | apply q02.alloc | apply q02.drewN | apply q02.drew | apply q02.set_1) | exact HI0.out), by repeat (first | (with_reducible first | exact HB.out | apply bA | apply bN | apply bD | refine bS ?_ (q02.ge HI0.out)) | exact HB.out), by repeat (first | (with_reducible first | exact HK.out | apply q08.set_ | apply q0b | apply q0f | apply q0c) | exact HK.out)⟩
end Go.Proofs.YthjnallbbhnndaaDoor.XWs
