/- Written by this session's program (wip/xp) out of the translation as Lean prints it: for each Go function a Lean function and the proof that the code answers just so, on the conditions named in each statement. -/
import Derived.Test.YthecjfkafpndoaaXAc0
import Derived.Test.YthecjfkafpndoaaXAc1
namespace Go.Proofs.Ythecjfkafpndoaa.XAc
open Go.Proofs.Ythecjfkafpndoaa.Short Go.RowKit Go.Proofs.YthecjfkafpndoaaW.PrintWords Go.Proofs.YthecjfkafpndoaaW.PrintLast Go.Proofs.YthecjfkafpndoaaW.PrintMore
attribute [local go_sem] max2_int min2_int max_two min_two max_three min_three max_four min_four   -- for this text's walks alone
set_option linter.unusedVariables false
set_option linter.unusedSimpArgs false

attribute [local go_sem high] eqA99
/-! ### clerestoryref1_parted: function 52 -/
def clerestoryref1_parted.l0 : Nat → List (S25) → Int → Int → Option ((List (S25)) × (List (S25)))
 | 0, _, _, _ => none
 | k + 1, x0, x4, x5 => if x5 < (x0.length : Int) then (if 0 ≤ x5 then (if ((rd_T25 x0 x5).f0) = (-1) then (clerestoryref1_parted.l0 k x0 (wrap64 (x5 + 1)) (wrap64 (x5 + 1))) else (clerestoryref1_parted.l0 k x0 x4 (wrap64 (x5 + 1)))) else (none)) else (if 0 ≤ x4 then (if x4 ≤ (x0.length : Int) then (some ((x0.take (x4 : Int).toNat), (x0.drop (x4 : Int).toNat))) else (none)) else (none))
def clerestoryref1_parted.f (k : Nat) (l0 : List (S25)) : Option ((List (S25)) × (List (S25))) := clerestoryref1_parted.l0 k l0 0 0
theorem clerestoryref1_parted.mono_l : ∀ k, (∀ y0 y1 y2, LeO (clerestoryref1_parted.l0 k y0 y1 y2) (clerestoryref1_parted.l0 (k + 1) y0 y1 y2))
 | 0 => fun _ _ _ r h => by simp [clerestoryref1_parted.l0] at h
 | k + 1 => by
  have ih0 := clerestoryref1_parted.mono_l k
  ·intro y0 y1 y2
   unfold clerestoryref1_parted.l0
   repeat' first
   | (with_reducible exact ih0 _ _ _)
   | (with_reducible exact LeO.refl _)
   | (with_reducible exact LeO.none _)
   | (with_reducible refine LeO.ite ?_ ?_)
   | (with_reducible refine LeO.bind ?_ (fun _ => ?_))
   | exact ih0 _ _ _
   | exact LeO.none _
   | refine LeO.ite ?_ ?_
   | refine LeO.bind ?_ (fun _ => ?_)
theorem clerestoryref1_parted.mono : ∀ a0 k, LeO (clerestoryref1_parted.f k a0) (clerestoryref1_parted.f (k + 1) a0) := by
 intro a0 k
 have ih0 := clerestoryref1_parted.mono_l k
 unfold clerestoryref1_parted.f
 repeat' first
  | (with_reducible exact ih0 _ _ _)
  | (with_reducible exact LeO.refl _)
  | (with_reducible exact LeO.none _)
  | (with_reducible refine LeO.ite ?_ ?_)
  | (with_reducible refine LeO.bind ?_ (fun _ => ?_))
  | exact ih0 _ _ _
  | exact LeO.none _
  | refine LeO.ite ?_ ?_
  | refine LeO.bind ?_ (fun _ => ?_)
set_option maxHeartbeats 8000000 in
set_option maxRecDepth 100000 in
theorem clerestoryref1_parted.calls (k : Nat) (P0_ : Nat → Prop) (A0 : Option Addr) (c0 : Nat) (l0 : List (S25)) (r1 : List (S25)) (r2 : List (S25)) (w : World) (hs0 : Kd.V k25 25 w w.heap.size (fun k_ => P0_ k_) (.slice A0 l0.length c0) l0) (h : clerestoryref1_parted.f k l0 = some (r1, r2)) :
 Calls Try.prog 52 #[.slice A0 l0.length c0] w fun e w' => ∃ v0_ v1_ : Value, e = .returned (.tuple #[v0_, v1_]) ∧ Kd.V k25 25 w' w.heap.size (fun k_ => (P0_ k_ ∨ w.heap.size ≤ k_)) v0_ r1 ∧ Kd.V k25 25 w' w.heap.size (fun k_ => (P0_ k_ ∨ w.heap.size ≤ k_)) v1_ r2 ∧ Below w.heap.size w w' := by
 have HO0 := aS (show Kd.V k25 25 w w.heap.size (fun k_ => (P0_ k_ ∨ w.heap.size ≤ k_)) (.slice A0 l0.length c0) l0 from Kd.V_mono hs0 (fun k_ hk => .inl hk))
 have HB := aS (Below.refl w.heap.size w)
 have H : (clerestoryref1_parted.l0 k l0 0 0) = some (r1, r2) := h
 clear h
 have H' := aS H
 clear H
 go_enter Try.func52, Try.ntmps52
 go_wp2
 repeat (go_quiet (fail); try go_wp2)
 go_loopg [4, 5] k (fun kq v4 v5 w' => ∃ (x4_1 : Int) (x5_1 : Int), v4 = .int .i64 x4_1 ∧ v5 = .int .i64 x5_1 ∧ Aside0 (clerestoryref1_parted.l0 kq l0 x4_1 x5_1 = some (r1, r2)) ∧ Aside0 (kq ≤ k) ∧ Aside0 (Kd.V k25 25 w' w.heap.size (fun k_ => (P0_ k_ ∨ w.heap.size ≤ k_)) (.slice A0 l0.length c0) l0) ∧ Aside0 (Below w.heap.size w w'))
 case atStart => exact ⟨(0), (0), (by first | rfl | (simp; done) | simp [*]), (by first | rfl | (simp; done) | simp [*]), H', ⟨Nat.le_refl _⟩, ⟨by (with_reducible repeat (first | apply vA | apply vN | apply vD)); exact HO0.out⟩, ⟨by repeat (first | (with_reducible first | exact HB.out | apply bA | apply bN | apply bD) | exact HB.out)⟩⟩
 case round =>
  clear H'
  obtain ⟨x4_1, x5_1, rfl, rfl, HA, HK1, HO_0, HB⟩ := hrel
  cases gk with
  | zero => exact absurd HA.out (by simp [clerestoryref1_parted.l0])
  | succ k1 =>
   have H := HA.out
   clear HA
   simp only [clerestoryref1_parted.l0] at H
   by_cases c2 : x5_1 < (l0.length : Int)
   ·rw [if_pos c2] at H
    have c2b0 : decide (x5_1 < (l0.length : Int)) = true := decide_eq_true c2
    clear c2
    by_cases c3 : 0 ≤ x5_1
    ·rw [if_pos c3] at H
     have c3b0 : decide (0 ≤ x5_1) = true := decide_eq_true c3
     clear c3
     by_cases c4 : ((rd_T25 l0 x5_1).f0) = (-1)
     ·rw [if_pos c4] at H
      have c4b0 : (((rd_T25 l0 x5_1).f0) == (-1)) = true := beq_iff_eq.mpr c4
      have c4b1 : (((rd_T25 l0 x5_1).f0) != (-1)) = false := bne_eq_false_iff_eq.mpr c4
      clear c4
      have H' := aS H
      clear H
      have p139 : 0 ≤ (x5_1 : Int) := od (by first | (with_reducible assumption) | assumption)
      have q139 : x5_1 < (l0.length : Int) := od (by first | (with_reducible assumption) | assumption)
      obtain ⟨ad139, A139_2, c139_2, e139, hx139_0, hx139_1, hx139_2, hl139_2, hi139_2⟩ := at_T25 (Kd.V_reads' HO_0.out).2.2 x5_1 p139 q139
      cases e139
      obtain ⟨ce139, hce139, hMe139, hcc139⟩ := Kd.V_get HO_0.out z25 x5_1 p139 (by first | exact q139 | exact od (by first | (with_reducible assumption) | assumption) | (have e_ := (Kd.V_reads' HO_0.out).1; omega))
      obtain ⟨ua139_2, uc139_2, rfl, ul139_2, ge139_2⟩ := k25_openF hMe139
      have hv139_2 := hcc139 2 _ rfl
      rw [add_field _ _ 2 (by omega)] at hv139_2
      replace hv139_2 := Option.some.inj (hv139_2.symm.trans hx139_2)
      injection hv139_2 with hva_ hvn_ hvc_
      rw [hva_] at ge139_2
      rw [hvc_] at ul139_2
      have HL139_2 := aS (show Kd.V k99 99 _ w.heap.size _ _ ((rd_T25 l0 x5_1).f2) from Kd.V_mk ul139_2 ge139_2)
      clear hva_ hvn_ hvc_ ge139_2 ul139_2
      clear hcc139 hce139
      have HR139_2 := aS hi139_2
      have HC139_2 := aS hl139_2
      clear hi139_2 hl139_2
      replace p139 := eq_true p139
      replace q139 := eq_true q139
      go_wp2
      repeat (go_quiet (fail); try go_wp2)
      go_roundg k1
      case measure => have := HK1.out; omega
      case rel => exact ⟨(wrap64 (x5_1 + 1)), (wrap64 (x5_1 + 1)), (by first | rfl | (simp; done) | simp [*]), (by first | rfl | (simp; done) | simp [*]), H', ⟨by have := HK1.out; omega⟩, ⟨by (with_reducible repeat (first | apply vA | apply vN | apply vD)); exact HO_0.out⟩, ⟨by repeat (first | (with_reducible first | exact HB.out | apply bA | apply bN | apply bD) | exact HB.out)⟩⟩
     ·rw [if_neg c4] at H
      have c4b0 : (((rd_T25 l0 x5_1).f0) == (-1)) = false := beq_eq_false_iff_ne.mpr c4
      have c4b1 : (((rd_T25 l0 x5_1).f0) != (-1)) = true := bne_iff_ne.mpr c4
      have H' := aS H
      clear H
      have p139 : 0 ≤ (x5_1 : Int) := od (by first | (with_reducible assumption) | assumption)
      have q139 : x5_1 < (l0.length : Int) := od (by first | (with_reducible assumption) | assumption)
      obtain ⟨ad139, A139_2, c139_2, e139, hx139_0, hx139_1, hx139_2, hl139_2, hi139_2⟩ := at_T25 (Kd.V_reads' HO_0.out).2.2 x5_1 p139 q139
      cases e139
      obtain ⟨ce139, hce139, hMe139, hcc139⟩ := Kd.V_get HO_0.out z25 x5_1 p139 (by first | exact q139 | exact od (by first | (with_reducible assumption) | assumption) | (have e_ := (Kd.V_reads' HO_0.out).1; omega))
      obtain ⟨ua139_2, uc139_2, rfl, ul139_2, ge139_2⟩ := k25_openF hMe139
      have hv139_2 := hcc139 2 _ rfl
      rw [add_field _ _ 2 (by omega)] at hv139_2
      replace hv139_2 := Option.some.inj (hv139_2.symm.trans hx139_2)
      injection hv139_2 with hva_ hvn_ hvc_
      rw [hva_] at ge139_2
      rw [hvc_] at ul139_2
      have HL139_2 := aS (show Kd.V k99 99 _ w.heap.size _ _ ((rd_T25 l0 x5_1).f2) from Kd.V_mk ul139_2 ge139_2)
      clear hva_ hvn_ hvc_ ge139_2 ul139_2
      clear hcc139 hce139
      have HR139_2 := aS hi139_2
      have HC139_2 := aS hl139_2
      clear hi139_2 hl139_2
      replace p139 := eq_true p139
      replace q139 := eq_true q139
      go_wp2
      repeat (go_quiet (fail); try go_wp2)
      go_roundg k1
      case measure => have := HK1.out; omega
      case rel => exact ⟨(x4_1), (wrap64 (x5_1 + 1)), (by first | rfl | (simp; done) | simp [*]), (by first | rfl | (simp; done) | simp [*]), H', ⟨by have := HK1.out; omega⟩, ⟨by (with_reducible repeat (first | apply vA | apply vN | apply vD)); exact HO_0.out⟩, ⟨by repeat (first | (with_reducible first | exact HB.out | apply bA | apply bN | apply bD) | exact HB.out)⟩⟩
    ·rw [if_neg c3] at H
     exact absurd H (by simp)
   ·rw [if_neg c2] at H
    have c2b0 : decide (x5_1 < (l0.length : Int)) = false := decide_eq_false c2
    clear c2
    by_cases c5 : 0 ≤ x4_1
    ·rw [if_pos c5] at H
     have c5b0 := eq_true c5
     have c5b1 : decide (0 ≤ x4_1) = true := decide_eq_true c5
     clear c5
     by_cases c6 : x4_1 ≤ (l0.length : Int)
     ·rw [if_pos c6] at H
      have c6b0 := eq_true c6
      have c6b1 : decide (x4_1 ≤ (l0.length : Int)) = true := decide_eq_true c6
      clear c6
      obtain ⟨y140, hy140⟩ : ∃ y_ : List (S25), y_ = (l0.take (x4_1 : Int).toNat) := ⟨_, rfl⟩
      replace H : (some (y140, (l0.drop (x4_1 : Int).toNat))) = some (r1, r2) := by first | (rw [hy140]; with_reducible exact H) | (have H2_ := (Option.bind_some _ _).symm.trans H; rw [hy140]; with_reducible exact H2_) | (have H2_ := (Option.bind_some _ _).symm.trans H; with_reducible exact H2_) | with_reducible exact H | (rw [hy140]; exact H) | exact H
      have Ny140 := aS hy140
      clear hy140
      have c7b0 := eq_true (od (by first | (with_reducible assumption) | assumption) : 0 ≤ x4_1)
      have c8b0 := eq_true (od (by first | (with_reducible assumption) | assumption) : x4_1 ≤ (l0.length : Int))
      obtain ⟨y145, hy145⟩ : ∃ y_ : List (S25), y_ = (l0.drop (x4_1 : Int).toNat) := ⟨_, rfl⟩
      replace H : (some (y140, y145)) = some (r1, r2) := by first | (rw [hy145]; with_reducible exact H) | (have H2_ := (Option.bind_some _ _).symm.trans H; rw [hy145]; with_reducible exact H2_) | (have H2_ := (Option.bind_some _ _).symm.trans H; with_reducible exact H2_) | with_reducible exact H | (rw [hy145]; exact H) | exact H
      have Ny145 := aS hy145
      clear hy145
      simp only [Option.some.injEq, Prod.mk.injEq] at H
      obtain ⟨rfl, rfl⟩ := H
      have q9 : (x4_1 : Int) ≤ ((l0.length : Int) : Int) := od (by first | (with_reducible assumption) | assumption)
      obtain ⟨i09, hi09, _, hsz9, _⟩ := info_parts info25
      have hroom9 : l0.length ≤ c0 := (Kd.V_reads' HO_0.out).2.1
      have hC9 : Kd.F k25 _ _ A0 l0.length l0 := (Kd.V_at (base := w.heap.size) HO_0.out).2.2
      have hcut9 := cut_to (P := Try.prog) 22 25 .i64 Try.underlying22 hi09 A0 l0.length c0 x4_1 (od (by first | (with_reducible assumption) | assumption)) q9 hroom9
      have hr9 := Kd.F_take (m := (x4_1 : Int).toNat) hC9 (by omega)
      have hy9 : y140.length = (x4_1 : Int).toNat := (by rw [Ny140.out, List.length_take]; omega)
      rw [← Ny140.out] at hr9
      rw [← hy9] at hcut9
      have HO144 := aS (show Kd.V k25 25 _ w.heap.size _ (.slice A0 y140.length c0) y140 from Kd.V_mk (by omega) hr9)
      have HC144 := aS (show y140.length ≤ c0 from by omega)
      clear hr9 hC9 hroom9 hi09 hsz9
      have KY9 := aS hy9
      clear hy9
      replace q9 := eq_true q9
      have q10 : (x4_1 : Int) ≤ ((l0.length : Int) : Int) := od (by first | (with_reducible assumption) | assumption)
      obtain ⟨i010, hi010, _, hsz10, _⟩ := info_parts info25
      have hroom10 : l0.length ≤ c0 := (Kd.V_reads' HO_0.out).2.1
      have hC10 : Kd.F k25 _ _ A0 l0.length l0 := (Kd.V_at (base := w.heap.size) HO_0.out).2.2
      have q010 : (0 : Int) ≤ (x4_1 : Int) := od (by first | (with_reducible assumption) | assumption)
      have hcut10 := cut_from (P := Try.prog) 22 25 .i64 Try.underlying22 hi010 3 hsz10 A0 l0.length c0 x4_1 q010 q10
      have hr10 := Kd.F_cut (m := (x4_1 : Int).toNat) (c := c0) hC10 (by omega) hroom10
      obtain ⟨A10, hA10⟩ : ∃ A1, A1 = (if c0 = (x4_1 : Int).toNat then A0 else (A0 : Option Addr).map (·.add ((x4_1 : Int).toNat * 3))) := ⟨_, rfl⟩
      obtain ⟨c10, hc10⟩ : ∃ c1, c1 = c0 - (x4_1 : Int).toNat := ⟨_, rfl⟩
      have hy10 : y145.length = l0.length - (x4_1 : Int).toNat := (by rw [Ny145.out, List.length_drop] <;> omega)
      rw [show (l0).drop (x4_1 : Int).toNat = y145 from Ny145.out.symm] at hr10
      replace hr10 : Kd.F k25 _ _ A10 y145.length y145 := (by rw [hA10]; exact hr10)
      rw [← hy10, ← hA10, ← hc10] at hcut10
      have HO149 := aS (show Kd.V k25 25 _ w.heap.size _ (.slice A10 y145.length c10) y145 from Kd.V_mk (by rw [hy10, hc10]; exact Nat.sub_le_sub_right hroom10 _) hr10)
      have HC149 := aS (show y145.length ≤ c10 from by rw [hy10, hc10]; exact Nat.sub_le_sub_right hroom10 _)
      clear hr10 hC10 hroom10 hi010 hsz10 hc10
      have KY10 := aS hy10
      have KA10 := aS hA10
      clear hy10 hA10
      replace q10 := eq_true q10
      go_wp2
      repeat (go_quiet (fail); try go_wp2)
      go_ret2
      exact ⟨_, _, by first | rfl | (simp [errW_none, errW_some] <;> rfl) | (simp [*, errW_none, errW_some] <;> rfl), by (with_reducible repeat (first | apply vA | apply vN | apply vD)); exact HO144.out, by (with_reducible repeat (first | apply vA | apply vN | apply vD)); exact HO149.out, by repeat (first | (with_reducible first | exact HB.out | apply bA | apply bN | apply bD) | exact HB.out)⟩
     ·rw [if_neg c6] at H
      exact absurd H (by simp)
    ·rw [if_neg c5] at H
     exact absurd H (by simp)

/-! ### clerestoryref1_standsIn: function 89 -/
def clerestoryref1_standsIn.l0 : Nat → List (S99) → Int → ByteArray → ByteArray → Option (Bool)
 | 0, _, _, _, _ => none
 | k + 1, x0, x5, x151000, x151001 => if x5 < (x0.length : Int) then (if 0 ≤ x5 then (if ((((rd_T99 x0 x5).f0).toList) == x151000.toList && ((((rd_T99 x0 x5).f1).toList) == x151001.toList)) = true then (some true) else (clerestoryref1_standsIn.l0 k x0 (wrap64 (x5 + 1)) x151000 x151001)) else (none)) else (some false)
def clerestoryref1_standsIn.f (k : Nat) (l0 : List (S99)) (a1_0 : ByteArray) (a1_1 : ByteArray) : Option (Bool) := clerestoryref1_standsIn.l0 k l0 0 a1_0 a1_1
theorem clerestoryref1_standsIn.mono_l : ∀ k, (∀ y0 y1 y2 y3, LeO (clerestoryref1_standsIn.l0 k y0 y1 y2 y3) (clerestoryref1_standsIn.l0 (k + 1) y0 y1 y2 y3))
 | 0 => fun _ _ _ _ r h => by simp [clerestoryref1_standsIn.l0] at h
 | k + 1 => by
  have ih0 := clerestoryref1_standsIn.mono_l k
  ·intro y0 y1 y2 y3
   unfold clerestoryref1_standsIn.l0
   repeat' first
   | (with_reducible exact ih0 _ _ _ _)
   | (with_reducible exact LeO.refl _)
   | (with_reducible exact LeO.none _)
   | (with_reducible refine LeO.ite ?_ ?_)
   | (with_reducible refine LeO.bind ?_ (fun _ => ?_))
   | exact ih0 _ _ _ _
   | exact LeO.none _
   | refine LeO.ite ?_ ?_
   | refine LeO.bind ?_ (fun _ => ?_)
theorem clerestoryref1_standsIn.mono : ∀ a0 a1 a2 k, LeO (clerestoryref1_standsIn.f k a0 a1 a2) (clerestoryref1_standsIn.f (k + 1) a0 a1 a2) := by
 intro a0 a1 a2 k
 have ih0 := clerestoryref1_standsIn.mono_l k
 unfold clerestoryref1_standsIn.f
 repeat' first
  | (with_reducible exact ih0 _ _ _ _)
  | (with_reducible exact LeO.refl _)
  | (with_reducible exact LeO.none _)
  | (with_reducible refine LeO.ite ?_ ?_)
  | (with_reducible refine LeO.bind ?_ (fun _ => ?_))
  | exact ih0 _ _ _ _
  | exact LeO.none _
  | refine LeO.ite ?_ ?_
  | refine LeO.bind ?_ (fun _ => ?_)
set_option maxHeartbeats 8000000 in
set_option maxRecDepth 100000 in
theorem clerestoryref1_standsIn.calls (k : Nat) (A0 : Option Addr) (c0 : Nat) (l0 : List (S99)) (a1_0 : ByteArray) (a1_1 : ByteArray) (r : Bool) (w : World) (hr0 : Kd.C k99 w A0 l0.length l0) (hc0 : l0.length ≤ c0) (h : clerestoryref1_standsIn.f k l0 a1_0 a1_1 = some r) :
 Calls Try.prog 89 #[.slice A0 l0.length c0, .agg #[.string a1_0, .string a1_1]] w fun e w' => e = .returned (.bool r) ∧ Below w.heap.size w w' := by
 have hu99 := Try.underlying99
 have HR0 := aS hr0
 have HC0 := aS hc0
 clear hr0 hc0
 have HB := aS (Below.refl w.heap.size w)
 have H : (clerestoryref1_standsIn.l0 k l0 0 a1_0 a1_1) = some r := h
 clear h
 have H' := aS H
 clear H
 go_enter Try.func89, Try.ntmps89
 go_wp2_with (first | ((with_reducible refine gate_dst (N := 3) rfl ?_); refine box_event ?hg (N := 3) ?hd (cs := #[.string a1_0, .string a1_1]) (t := 99) ?hr ?_; (case hd => rfl); (case hg => rfl); (case hr => first | (go_simp; done) | (go_simp; rfl)); intro gb150 hg w3 hbox hb; have n0_ := aS (below_step (by repeat (first | (with_reducible first | exact HB.out | apply bA | apply bN | apply bD) | exact HB.out)) hb); have n1_ := aS (hbox); have n2_ := aS ((by rw [hg]; exact (below_size (by repeat (first | (with_reducible first | exact HB.out | apply bA | apply bN | apply bD) | exact HB.out))) : w.heap.size ≤ gb150)); have n3_ := aS ((by rw [hg]; exact (below_size (by repeat (first | (with_reducible first | exact HB.out | apply bA | apply bN | apply bD) | exact HB.out))) : w.heap.size ≤ gb150)); clear HB; have HB := n0_; have BK150 := n1_; have GW150 := n2_; have GE150 := n3_; clear n0_ n1_ n2_ n3_; clear hb hbox hg))
 repeat (go_quiet (first | ((with_reducible refine gate_dst (N := 3) rfl ?_); refine box_event ?hg (N := 3) ?hd (cs := #[.string a1_0, .string a1_1]) (t := 99) ?hr ?_; (case hd => rfl); (case hg => rfl); (case hr => first | (go_simp; done) | (go_simp; rfl)); intro gb150 hg w3 hbox hb; have n0_ := aS (below_step (by repeat (first | (with_reducible first | exact HB.out | apply bA | apply bN | apply bD) | exact HB.out)) hb); have n1_ := aS (hbox); have n2_ := aS ((by rw [hg]; exact (below_size (by repeat (first | (with_reducible first | exact HB.out | apply bA | apply bN | apply bD) | exact HB.out))) : w.heap.size ≤ gb150)); have n3_ := aS ((by rw [hg]; exact (below_size (by repeat (first | (with_reducible first | exact HB.out | apply bA | apply bN | apply bD) | exact HB.out))) : w.heap.size ≤ gb150)); clear HB; have HB := n0_; have BK150 := n1_; have GW150 := n2_; have GE150 := n3_; clear n0_ n1_ n2_ n3_; clear hb hbox hg)); try go_wp2_with (first | ((with_reducible refine gate_dst (N := 3) rfl ?_); refine box_event ?hg (N := 3) ?hd (cs := #[.string a1_0, .string a1_1]) (t := 99) ?hr ?_; (case hd => rfl); (case hg => rfl); (case hr => first | (go_simp; done) | (go_simp; rfl)); intro gb150 hg w3 hbox hb; have n0_ := aS (below_step (by repeat (first | (with_reducible first | exact HB.out | apply bA | apply bN | apply bD) | exact HB.out)) hb); have n1_ := aS (hbox); have n2_ := aS ((by rw [hg]; exact (below_size (by repeat (first | (with_reducible first | exact HB.out | apply bA | apply bN | apply bD) | exact HB.out))) : w.heap.size ≤ gb150)); have n3_ := aS ((by rw [hg]; exact (below_size (by repeat (first | (with_reducible first | exact HB.out | apply bA | apply bN | apply bD) | exact HB.out))) : w.heap.size ≤ gb150)); clear HB; have HB := n0_; have BK150 := n1_; have GW150 := n2_; have GE150 := n3_; clear n0_ n1_ n2_ n3_; clear hb hbox hg)))
 go_loopg [5] k (fun kq v5 w' => ∃ (x5_1 : Int), v5 = .int .i64 x5_1 ∧ Aside0 (clerestoryref1_standsIn.l0 kq l0 x5_1 a1_0 a1_1 = some r) ∧ Aside0 (kq ≤ k) ∧ Aside0 (w'.heap[gb150]? = some (.cells #[.string a1_0, .string a1_1] 99 (0, 0))) ∧ Aside0 (Below w.heap.size w w'))
 case atStart => exact ⟨(0), (by first | rfl | (simp; done) | simp [*]), H', ⟨Nat.le_refl _⟩, ⟨by (with_reducible repeat (first | refine kN ?_ _ | refine kD ?_ | refine kA ?_ _)); exact BK150.out⟩, ⟨by repeat (first | (with_reducible first | exact HB.out | apply bA | apply bN | apply bD | refine bS ?_ GE150.out) | exact HB.out)⟩⟩
 case round =>
  clear H'
  try clear p2
  obtain ⟨x5_1, rfl, HA, HK1, BK150, HB⟩ := hrel
  cases gk with
  | zero => exact absurd HA.out (by simp [clerestoryref1_standsIn.l0])
  | succ k1 =>
   have H := HA.out
   clear HA
   simp only [clerestoryref1_standsIn.l0] at H
   by_cases c4 : x5_1 < (l0.length : Int)
   ·rw [if_pos c4] at H
    have c4b0 : decide (x5_1 < (l0.length : Int)) = true := decide_eq_true c4
    clear c4
    by_cases c5 : 0 ≤ x5_1
    ·rw [if_pos c5] at H
     have c5b0 : decide (0 ≤ x5_1) = true := decide_eq_true c5
     clear c5
     by_cases c6 : ((((rd_T99 l0 x5_1).f0).toList) == a1_0.toList && ((((rd_T99 l0 x5_1).f1).toList) == a1_1.toList)) = true
     ·rw [if_pos c6] at H
      have c6b0 : ((((rd_T99 l0 x5_1).f0).toList) == a1_0.toList && ((((rd_T99 l0 x5_1).f1).toList) == a1_1.toList)) = true := c6
      (try (have c6b1 : decide ((((rd_T99 l0 x5_1).f0).toList) = a1_0.toList && ((((rd_T99 l0 x5_1).f1).toList) == a1_1.toList)) = true := by simpa using c6))
      (try (have c6b2 : ((((rd_T99 l0 x5_1).f0).toList) == a1_0.toList && ((((rd_T99 l0 x5_1).f1).toList) == a1_1.toList)) = true := by simpa using c6))
      clear c6
      obtain rfl := Option.some.inj H
      have p151 : 0 ≤ (x5_1 : Int) := od (by first | (with_reducible assumption) | assumption)
      have q151 : x5_1 < (l0.length : Int) := od (by first | (with_reducible assumption) | assumption)
      obtain ⟨ad151, e151, hx151_0, hx151_1⟩ := at_T99 HR0.out x5_1 p151 q151
      cases e151
      replace hx151_0 := (HB.out.cell (World.block_lt_of_cell? w _ hx151_0)).trans hx151_0
      replace hx151_1 := (HB.out.cell (World.block_lt_of_cell? w _ hx151_1)).trans hx151_1
      replace p151 := eq_true p151
      replace q151 := eq_true q151
      have hcz7_0 : wr.cell? ⟨gb150, 0, none⟩ = some (.string a1_0) := (blk_cell BK150.out 0).trans rfl
      have hcz7_1 : wr.cell? ⟨gb150, 1, none⟩ = some (.string a1_1) := (blk_cell BK150.out 1).trans rfl
      have hfz7_0 := blk_frozen BK150.out 0
      have hfz7_1 := blk_frozen BK150.out 1
      go_wp2
      repeat (go_quiet (fail); try go_wp2)
      go_ret
      exact ⟨by first | rfl | (simp [errW_none, errW_some] <;> rfl) | (simp [*, errW_none, errW_some] <;> rfl), by repeat (first | (with_reducible first | exact HB.out | apply bA | apply bN | apply bD | refine bS ?_ GE150.out) | exact HB.out)⟩
     ·rw [if_neg c6] at H
      have c6b0 : ((((rd_T99 l0 x5_1).f0).toList) == a1_0.toList && ((((rd_T99 l0 x5_1).f1).toList) == a1_1.toList)) = false := by simpa using c6
      (try (have c6b1 : decide ((((rd_T99 l0 x5_1).f0).toList) = a1_0.toList && ((((rd_T99 l0 x5_1).f1).toList) == a1_1.toList)) = false := by simpa using c6))
      (try (have c6b2 : ((((rd_T99 l0 x5_1).f0).toList) == a1_0.toList && ((((rd_T99 l0 x5_1).f1).toList) == a1_1.toList)) = false := by simpa using c6))
      (try (have c6b3 : ¬ ((((rd_T99 l0 x5_1).f0).toList) = a1_0.toList && ((((rd_T99 l0 x5_1).f1).toList) == a1_1.toList)) := by simpa using c6))
      clear c6
      have H' := aS H
      clear H
      have p151 : 0 ≤ (x5_1 : Int) := od (by first | (with_reducible assumption) | assumption)
      have q151 : x5_1 < (l0.length : Int) := od (by first | (with_reducible assumption) | assumption)
      obtain ⟨ad151, e151, hx151_0, hx151_1⟩ := at_T99 HR0.out x5_1 p151 q151
      cases e151
      replace hx151_0 := (HB.out.cell (World.block_lt_of_cell? w _ hx151_0)).trans hx151_0
      replace hx151_1 := (HB.out.cell (World.block_lt_of_cell? w _ hx151_1)).trans hx151_1
      replace p151 := eq_true p151
      replace q151 := eq_true q151
      have hcz8_0 : wr.cell? ⟨gb150, 0, none⟩ = some (.string a1_0) := (blk_cell BK150.out 0).trans rfl
      have hcz8_1 : wr.cell? ⟨gb150, 1, none⟩ = some (.string a1_1) := (blk_cell BK150.out 1).trans rfl
      have hfz8_0 := blk_frozen BK150.out 0
      have hfz8_1 := blk_frozen BK150.out 1
      go_wp2
      repeat (go_quiet (fail); try go_wp2)
      go_roundg k1
      case measure => have := HK1.out; omega
      case rel => exact ⟨(wrap64 (x5_1 + 1)), (by first | rfl | (simp; done) | simp [*]), H', ⟨by have := HK1.out; omega⟩, ⟨by (with_reducible repeat (first | refine kN ?_ _ | refine kD ?_ | refine kA ?_ _)); exact BK150.out⟩, ⟨by repeat (first | (with_reducible first | exact HB.out | apply bA | apply bN | apply bD | refine bS ?_ GE150.out) | exact HB.out)⟩⟩
    ·rw [if_neg c5] at H
     exact absurd H (by simp)
   ·rw [if_neg c4] at H
    have c4b0 : decide (x5_1 < (l0.length : Int)) = false := decide_eq_false c4
    clear c4
    obtain rfl := Option.some.inj H
    go_wp2
    repeat (go_quiet (fail); try go_wp2)
    go_ret
    exact ⟨by first | rfl | (simp [errW_none, errW_some] <;> rfl) | (simp [*, errW_none, errW_some] <;> rfl), by repeat (first | (with_reducible first | exact HB.out | apply bA | apply bN | apply bD | refine bS ?_ GE150.out) | exact HB.out)⟩

end Go.Proofs.Ythecjfkafpndoaa.XAc
