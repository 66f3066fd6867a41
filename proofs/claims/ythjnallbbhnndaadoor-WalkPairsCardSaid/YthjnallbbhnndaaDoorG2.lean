/- Written by this session's program (wip/xp) out of the translation as Lean prints it: for each Go function a Lean function and the proof that the code answers just so, on the conditions named in each statement. -/
import Derived.Test.YthjnallbbhnndaaDoorG1
import Derived.Lib.SlTrimSet
import Derived.ProofKit
import Derived.SizedLaws
import Derived.Deep.Slices
namespace Go.Proofs.YthjnallbbhnndaaDoor.XWp
open Go.Proofs.YthjnallbbhnndaaDoor.Short Go.RowKit Go.Proofs.YthjnallbbhnndaaDoorW.PrintWords Go.Proofs.YthjnallbbhnndaaDoorW.PrintLast Go.Proofs.YthjnallbbhnndaaDoorW.PrintMore
attribute [local go_sem] q15 q13 q1i q1h q0x q0w q14 q12   -- for this text's walks alone
set_option linter.unusedVariables false
set_option linter.unusedSimpArgs false
def dom_bare.f (a0_0 : Int) (a0_1 : ByteArray) (l0_2 : List (S122)) (a0_3 : ByteArray) (a0_4 : Int) (l0_5 : List Int) : Option (Bool) := if a0_0 = 3 then (if a0_0 = 2 then ((dom_parent.f a0_0).bind fun t109 => (if t109 = true then (some true) else (some ((l0_5.length : Int) == 0)))) else (if a0_0 = 5 then (if (l0_2.length : Int) = 0 then ((dom_parent.f a0_0).bind fun t110 => (if t110 = true then (some true) else (some ((l0_5.length : Int) == 0)))) else (some false)) else (if a0_1.toList = ([] : List UInt8) then (if (l0_2.length : Int) = 0 then ((dom_parent.f a0_0).bind fun t111 => (if t111 = true then (some true) else (some ((l0_5.length : Int) == 0)))) else (some false)) else (some false)))) else (if a0_0 = 2 then (if a0_0 = 4 then ((dom_parent.f a0_0).bind fun t112 => (if t112 = true then (some true) else (some ((l0_5.length : Int) == 0)))) else (if a0_3.toList = ([] : List UInt8) then ((dom_parent.f a0_0).bind fun t113 => (if t113 = true then (some true) else (some ((l0_5.length : Int) == 0)))) else (some false))) else (if a0_0 = 5 then (if (l0_2.length : Int) = 0 then (if a0_0 = 4 then ((dom_parent.f a0_0).bind fun t114 => (if t114 = true then (some true) else (some ((l0_5.length : Int) == 0)))) else (if a0_3.toList = ([] : List UInt8) then ((dom_parent.f a0_0).bind fun t115 => (if t115 = true then (some true) else (some ((l0_5.length : Int) == 0)))) else (some false))) else (some false)) else (if a0_1.toList = ([] : List UInt8) then (if (l0_2.length : Int) = 0 then (if a0_0 = 4 then ((dom_parent.f a0_0).bind fun t116 => (if t116 = true then (some true) else (some ((l0_5.length : Int) == 0)))) else (if a0_3.toList = ([] : List UInt8) then ((dom_parent.f a0_0).bind fun t117 => (if t117 = true then (some true) else (some ((l0_5.length : Int) == 0)))) else (some false))) else (some false)) else (some false))))
set_option maxHeartbeats 64000000 in
set_option maxRecDepth 100000 in
theorem dom_bare.core (a0_0 : Int) (a0_1 : ByteArray) (A0_2 : Option Addr) (c0_2 : Nat) (l0_2 : List (S122)) (a0_3 : ByteArray) (a0_4 : Int) (A0_5 : Option Addr) (c0_5 : Nat) (l0_5 : List Int) (b2 b3 b4 b5 bn ba bt bc pv : Bool) (w : World)
 (h2 : (a0_0 == 2) = b2) (h3 : (a0_0 == 3) = b3) (h4 : (a0_0 == 4) = b4) (h5 : (a0_0 == 5) = b5) (hn : (a0_1.toList == ([] : List UInt8)) = bn) (ha : ((l0_2.length : Int) == 0) = ba) (ht : (a0_3.toList == ([] : List UInt8)) = bt) (hc : ((l0_5.length : Int) == 0) = bc) (hp : dom_parent.f a0_0 = some pv)
 (hk : (b2 = true ∧ b3 = false ∧ b4 = false ∧ b5 = false) ∨ (b2 = false ∧ b3 = true ∧ b4 = false ∧ b5 = false) ∨ (b2 = false ∧ b3 = false ∧ b4 = true ∧ b5 = false) ∨ (b2 = false ∧ b3 = false ∧ b4 = false ∧ b5 = true) ∨ (b2 = false ∧ b3 = false ∧ b4 = false ∧ b5 = false)) :
 Calls Tryd.prog 135 #[.agg #[.int .i64 a0_0, .string a0_1, .slice A0_2 l0_2.length c0_2, .string a0_3, .int .i64 a0_4, .slice A0_5 l0_5.length c0_5]] w fun e w' => e = .returned (.bool ((b2 || b5 || bn) && (b2 || ba) && (b3 || b4 || bt) && (pv || bc))) ∧ Below w.heap.size w w' := by
 have hu43 := Tryd.underlying43
 have HB := aS (Below.refl w.heap.size w)
 rcases hk with ⟨rfl, rfl, rfl, rfl⟩ | ⟨rfl, rfl, rfl, rfl⟩ | ⟨rfl, rfl, rfl, rfl⟩ | ⟨rfl, rfl, rfl, rfl⟩ | ⟨rfl, rfl, rfl, rfl⟩
 ·cases bt
  case' true => (cases pv; case' false => cases bc)
  all_goals (go_enter Tryd.func135, Tryd.ntmps135; go_wp2_with (first | ((with_reducible refine q0c (N := 1) rfl ?_); refine q0q ?hg (N := 1) ?hd (cs := #[.int .i64 a0_0, .string a0_1, .slice A0_2 l0_2.length c0_2, .string a0_3, .int .i64 a0_4, .slice A0_5 l0_5.length c0_5]) (t := 43) ?hr ?_; (case hd => rfl); (case hg => rfl); (case hr => first | (go_simp; done) | (go_simp; rfl)); intro gb hg wb hbox hb; have n0_ := aS (q03 (by repeat (first | exact HB.out | apply bA | apply bN | apply bD)) hb); have BK := aS hbox; have hz0 : wb.cell? ⟨gb, 0, none⟩ = some (.int .i64 a0_0) := (q05 BK.out 0).trans rfl; have hz1 : wb.cell? ⟨gb, 1, none⟩ = some (.string a0_1) := (q05 BK.out 1).trans rfl; have hz2 : wb.cell? ⟨gb, 2, none⟩ = some (.slice A0_2 l0_2.length c0_2) := (q05 BK.out 2).trans rfl; have hz3 : wb.cell? ⟨gb, 3, none⟩ = some (.string a0_3) := (q05 BK.out 3).trans rfl; have hz4 : wb.cell? ⟨gb, 4, none⟩ = some (.int .i64 a0_4) := (q05 BK.out 4).trans rfl; have hz5 : wb.cell? ⟨gb, 5, none⟩ = some (.slice A0_5 l0_5.length c0_5) := (q05 BK.out 5).trans rfl; clear HB; have HB := n0_; clear n0_ hg hbox hb) | (go_at_call 158; (with_reducible refine (dom_parent.calls a0_0 _ _ hp).mono ?_); rintro e w' ⟨rfl, ⟨nd, rfl⟩⟩)); repeat (go_quiet ((go_at_call 158; (with_reducible refine (dom_parent.calls a0_0 _ _ hp).mono ?_); rintro e w' ⟨rfl, ⟨nd, rfl⟩⟩; (try first | exact ⟨rfl, _, World.drewN_drewN _ _ _⟩ | exact ⟨rfl, _, Eq.trans (World.drewN_drewN _ _ _) (congrArg (World.drewN _) (Nat.add_assoc _ _ _))⟩))); try go_wp2_with (first | (go_at_call 158; (with_reducible refine (dom_parent.calls a0_0 _ _ hp).mono ?_); rintro e w' ⟨rfl, ⟨nd, rfl⟩⟩))); go_ret; exact ⟨rfl, (by repeat (first | exact HB.out | apply bA | apply bN | apply bD))⟩)
 ·cases bn
  case' true => (cases ba; case' true => (cases pv; case' false => cases bc))
  all_goals (go_enter Tryd.func135, Tryd.ntmps135; go_wp2_with (first | ((with_reducible refine q0c (N := 1) rfl ?_); refine q0q ?hg (N := 1) ?hd (cs := #[.int .i64 a0_0, .string a0_1, .slice A0_2 l0_2.length c0_2, .string a0_3, .int .i64 a0_4, .slice A0_5 l0_5.length c0_5]) (t := 43) ?hr ?_; (case hd => rfl); (case hg => rfl); (case hr => first | (go_simp; done) | (go_simp; rfl)); intro gb hg wb hbox hb; have n0_ := aS (q03 (by repeat (first | exact HB.out | apply bA | apply bN | apply bD)) hb); have BK := aS hbox; have hz0 : wb.cell? ⟨gb, 0, none⟩ = some (.int .i64 a0_0) := (q05 BK.out 0).trans rfl; have hz1 : wb.cell? ⟨gb, 1, none⟩ = some (.string a0_1) := (q05 BK.out 1).trans rfl; have hz2 : wb.cell? ⟨gb, 2, none⟩ = some (.slice A0_2 l0_2.length c0_2) := (q05 BK.out 2).trans rfl; have hz3 : wb.cell? ⟨gb, 3, none⟩ = some (.string a0_3) := (q05 BK.out 3).trans rfl; have hz4 : wb.cell? ⟨gb, 4, none⟩ = some (.int .i64 a0_4) := (q05 BK.out 4).trans rfl; have hz5 : wb.cell? ⟨gb, 5, none⟩ = some (.slice A0_5 l0_5.length c0_5) := (q05 BK.out 5).trans rfl; clear HB; have HB := n0_; clear n0_ hg hbox hb) | (go_at_call 158; (with_reducible refine (dom_parent.calls a0_0 _ _ hp).mono ?_); rintro e w' ⟨rfl, ⟨nd, rfl⟩⟩)); repeat (go_quiet ((go_at_call 158; (with_reducible refine (dom_parent.calls a0_0 _ _ hp).mono ?_); rintro e w' ⟨rfl, ⟨nd, rfl⟩⟩; (try first | exact ⟨rfl, _, World.drewN_drewN _ _ _⟩ | exact ⟨rfl, _, Eq.trans (World.drewN_drewN _ _ _) (congrArg (World.drewN _) (Nat.add_assoc _ _ _))⟩))); try go_wp2_with (first | (go_at_call 158; (with_reducible refine (dom_parent.calls a0_0 _ _ hp).mono ?_); rintro e w' ⟨rfl, ⟨nd, rfl⟩⟩))); go_ret; exact ⟨rfl, (by repeat (first | exact HB.out | apply bA | apply bN | apply bD))⟩)
 ·cases bn
  case' true => (cases ba; case' true => (cases pv; case' false => cases bc))
  all_goals (go_enter Tryd.func135, Tryd.ntmps135; go_wp2_with (first | ((with_reducible refine q0c (N := 1) rfl ?_); refine q0q ?hg (N := 1) ?hd (cs := #[.int .i64 a0_0, .string a0_1, .slice A0_2 l0_2.length c0_2, .string a0_3, .int .i64 a0_4, .slice A0_5 l0_5.length c0_5]) (t := 43) ?hr ?_; (case hd => rfl); (case hg => rfl); (case hr => first | (go_simp; done) | (go_simp; rfl)); intro gb hg wb hbox hb; have n0_ := aS (q03 (by repeat (first | exact HB.out | apply bA | apply bN | apply bD)) hb); have BK := aS hbox; have hz0 : wb.cell? ⟨gb, 0, none⟩ = some (.int .i64 a0_0) := (q05 BK.out 0).trans rfl; have hz1 : wb.cell? ⟨gb, 1, none⟩ = some (.string a0_1) := (q05 BK.out 1).trans rfl; have hz2 : wb.cell? ⟨gb, 2, none⟩ = some (.slice A0_2 l0_2.length c0_2) := (q05 BK.out 2).trans rfl; have hz3 : wb.cell? ⟨gb, 3, none⟩ = some (.string a0_3) := (q05 BK.out 3).trans rfl; have hz4 : wb.cell? ⟨gb, 4, none⟩ = some (.int .i64 a0_4) := (q05 BK.out 4).trans rfl; have hz5 : wb.cell? ⟨gb, 5, none⟩ = some (.slice A0_5 l0_5.length c0_5) := (q05 BK.out 5).trans rfl; clear HB; have HB := n0_; clear n0_ hg hbox hb) | (go_at_call 158; (with_reducible refine (dom_parent.calls a0_0 _ _ hp).mono ?_); rintro e w' ⟨rfl, ⟨nd, rfl⟩⟩)); repeat (go_quiet ((go_at_call 158; (with_reducible refine (dom_parent.calls a0_0 _ _ hp).mono ?_); rintro e w' ⟨rfl, ⟨nd, rfl⟩⟩; (try first | exact ⟨rfl, _, World.drewN_drewN _ _ _⟩ | exact ⟨rfl, _, Eq.trans (World.drewN_drewN _ _ _) (congrArg (World.drewN _) (Nat.add_assoc _ _ _))⟩))); try go_wp2_with (first | (go_at_call 158; (with_reducible refine (dom_parent.calls a0_0 _ _ hp).mono ?_); rintro e w' ⟨rfl, ⟨nd, rfl⟩⟩))); go_ret; exact ⟨rfl, (by repeat (first | exact HB.out | apply bA | apply bN | apply bD))⟩)
 ·cases ba
  case' true => (cases bt; case' true => (cases pv; case' false => cases bc))
  all_goals (go_enter Tryd.func135, Tryd.ntmps135; go_wp2_with (first | ((with_reducible refine q0c (N := 1) rfl ?_); refine q0q ?hg (N := 1) ?hd (cs := #[.int .i64 a0_0, .string a0_1, .slice A0_2 l0_2.length c0_2, .string a0_3, .int .i64 a0_4, .slice A0_5 l0_5.length c0_5]) (t := 43) ?hr ?_; (case hd => rfl); (case hg => rfl); (case hr => first | (go_simp; done) | (go_simp; rfl)); intro gb hg wb hbox hb; have n0_ := aS (q03 (by repeat (first | exact HB.out | apply bA | apply bN | apply bD)) hb); have BK := aS hbox; have hz0 : wb.cell? ⟨gb, 0, none⟩ = some (.int .i64 a0_0) := (q05 BK.out 0).trans rfl; have hz1 : wb.cell? ⟨gb, 1, none⟩ = some (.string a0_1) := (q05 BK.out 1).trans rfl; have hz2 : wb.cell? ⟨gb, 2, none⟩ = some (.slice A0_2 l0_2.length c0_2) := (q05 BK.out 2).trans rfl; have hz3 : wb.cell? ⟨gb, 3, none⟩ = some (.string a0_3) := (q05 BK.out 3).trans rfl; have hz4 : wb.cell? ⟨gb, 4, none⟩ = some (.int .i64 a0_4) := (q05 BK.out 4).trans rfl; have hz5 : wb.cell? ⟨gb, 5, none⟩ = some (.slice A0_5 l0_5.length c0_5) := (q05 BK.out 5).trans rfl; clear HB; have HB := n0_; clear n0_ hg hbox hb) | (go_at_call 158; (with_reducible refine (dom_parent.calls a0_0 _ _ hp).mono ?_); rintro e w' ⟨rfl, ⟨nd, rfl⟩⟩)); repeat (go_quiet ((go_at_call 158; (with_reducible refine (dom_parent.calls a0_0 _ _ hp).mono ?_); rintro e w' ⟨rfl, ⟨nd, rfl⟩⟩; (try first | exact ⟨rfl, _, World.drewN_drewN _ _ _⟩ | exact ⟨rfl, _, Eq.trans (World.drewN_drewN _ _ _) (congrArg (World.drewN _) (Nat.add_assoc _ _ _))⟩))); try go_wp2_with (first | (go_at_call 158; (with_reducible refine (dom_parent.calls a0_0 _ _ hp).mono ?_); rintro e w' ⟨rfl, ⟨nd, rfl⟩⟩))); go_ret; exact ⟨rfl, (by repeat (first | exact HB.out | apply bA | apply bN | apply bD))⟩)
 ·cases bn
  case' true => (cases ba; case' true => (cases bt; case' true => (cases pv; case' false => cases bc)))
  all_goals (go_enter Tryd.func135, Tryd.ntmps135; go_wp2_with (first | ((with_reducible refine q0c (N := 1) rfl ?_); refine q0q ?hg (N := 1) ?hd (cs := #[.int .i64 a0_0, .string a0_1, .slice A0_2 l0_2.length c0_2, .string a0_3, .int .i64 a0_4, .slice A0_5 l0_5.length c0_5]) (t := 43) ?hr ?_; (case hd => rfl); (case hg => rfl); (case hr => first | (go_simp; done) | (go_simp; rfl)); intro gb hg wb hbox hb; have n0_ := aS (q03 (by repeat (first | exact HB.out | apply bA | apply bN | apply bD)) hb); have BK := aS hbox; have hz0 : wb.cell? ⟨gb, 0, none⟩ = some (.int .i64 a0_0) := (q05 BK.out 0).trans rfl; have hz1 : wb.cell? ⟨gb, 1, none⟩ = some (.string a0_1) := (q05 BK.out 1).trans rfl; have hz2 : wb.cell? ⟨gb, 2, none⟩ = some (.slice A0_2 l0_2.length c0_2) := (q05 BK.out 2).trans rfl; have hz3 : wb.cell? ⟨gb, 3, none⟩ = some (.string a0_3) := (q05 BK.out 3).trans rfl; have hz4 : wb.cell? ⟨gb, 4, none⟩ = some (.int .i64 a0_4) := (q05 BK.out 4).trans rfl; have hz5 : wb.cell? ⟨gb, 5, none⟩ = some (.slice A0_5 l0_5.length c0_5) := (q05 BK.out 5).trans rfl; clear HB; have HB := n0_; clear n0_ hg hbox hb) | (go_at_call 158; (with_reducible refine (dom_parent.calls a0_0 _ _ hp).mono ?_); rintro e w' ⟨rfl, ⟨nd, rfl⟩⟩)); repeat (go_quiet ((go_at_call 158; (with_reducible refine (dom_parent.calls a0_0 _ _ hp).mono ?_); rintro e w' ⟨rfl, ⟨nd, rfl⟩⟩; (try first | exact ⟨rfl, _, World.drewN_drewN _ _ _⟩ | exact ⟨rfl, _, Eq.trans (World.drewN_drewN _ _ _) (congrArg (World.drewN _) (Nat.add_assoc _ _ _))⟩))); try go_wp2_with (first | (go_at_call 158; (with_reducible refine (dom_parent.calls a0_0 _ _ hp).mono ?_); rintro e w' ⟨rfl, ⟨nd, rfl⟩⟩))); go_ret; exact ⟨rfl, (by repeat (first | exact HB.out | apply bA | apply bN | apply bD))⟩)
set_option maxHeartbeats 8000000 in
theorem dom_bare.calls (a0_0 : Int) (a0_1 : ByteArray) (A0_2 : Option Addr) (c0_2 : Nat) (l0_2 : List (S122)) (a0_3 : ByteArray) (a0_4 : Int) (A0_5 : Option Addr) (c0_5 : Nat) (l0_5 : List Int) (r : Bool) (w : World) (hr0_2 : Kd.C k122 w A0_2 l0_2.length l0_2) (hc0_2 : l0_2.length ≤ c0_2) (hr0_5 : Kd.C (Kd.int .i64) w A0_5 l0_5.length l0_5) (hc0_5 : l0_5.length ≤ c0_5) (h : dom_bare.f a0_0 a0_1 l0_2 a0_3 a0_4 l0_5 = some r) :
 Calls Tryd.prog 135 #[.agg #[.int .i64 a0_0, .string a0_1, .slice A0_2 l0_2.length c0_2, .string a0_3, .int .i64 a0_4, .slice A0_5 l0_5.length c0_5]] w fun e w' => e = .returned (.bool r) ∧ Below w.heap.size w w' := by
  obtain ⟨pv, hp⟩ : ∃ pv, dom_parent.f a0_0 = some pv := by unfold dom_parent.f; split <;> exact ⟨_, rfl⟩
  have hr : r = ((decide (a0_0 = 2) || decide (a0_0 = 5) || (a0_1.toList == ([] : List UInt8))) && (decide (a0_0 = 2) || ((l0_2.length : Int) == 0)) && (decide (a0_0 = 3) || decide (a0_0 = 4) || (a0_3.toList == ([] : List UInt8))) && (pv || ((l0_5.length : Int) == 0))) := by
   unfold dom_bare.f at h
   rw [hp] at h
   simp only [Option.bind_some] at h
   clear hp
   generalize ((l0_5.length : Int) == 0) = bc at h ⊢
   have bs : ∀ s : ByteArray, (s.toList == ([] : List UInt8)) = decide (s.toList = []) := fun s => by by_cases c : s.toList = [] <;> simp [c]
   have bl : ((l0_2.length : Int) == 0) = decide ((l0_2.length : Int) = 0) := rfl
   rw [bs, bs, bl]
   generalize (l0_2.length : Int) = L at h ⊢
   generalize a0_1.toList = X at h ⊢
   generalize a0_3.toList = Y at h ⊢
   by_cases k2 : a0_0 = 2
   ·subst k2; by_cases x : Y = [] <;> cases pv <;> simp [x] at h ⊢ <;> first | exact h.symm | exact h
   by_cases k3 : a0_0 = 3
   ·subst k3; by_cases x : X = [] <;> by_cases y : L = 0 <;> cases pv <;> simp [x, y] at h ⊢ <;> first | exact h.symm | exact h
   by_cases k4 : a0_0 = 4
   ·subst k4; by_cases x : X = [] <;> by_cases y : L = 0 <;> cases pv <;> simp [x, y] at h ⊢ <;> first | exact h.symm | exact h
   by_cases k5 : a0_0 = 5
   ·subst k5; by_cases x : Y = [] <;> by_cases y : L = 0 <;> cases pv <;> simp [x, y] at h ⊢ <;> first | exact h.symm | exact h
   by_cases x : X = [] <;> by_cases y : L = 0 <;> by_cases z : Y = [] <;> cases pv <;> simp [k2, k3, k4, k5, x, y, z] at h ⊢ <;> first | exact h.symm | exact h
  subst hr
  refine dom_bare.core a0_0 a0_1 A0_2 c0_2 l0_2 a0_3 a0_4 A0_5 c0_5 l0_5 _ _ _ _ _ _ _ _ pv w rfl rfl rfl rfl rfl rfl rfl rfl hp ?_
  by_cases k2 : a0_0 = 2
  ·subst k2; simp
  by_cases k3 : a0_0 = 3
  ·subst k3; simp
  by_cases k4 : a0_0 = 4
  ·subst k4; simp
  by_cases k5 : a0_0 = 5
  ·subst k5; simp
  simp [k2, k3, k4, k5]
def strings_IndexByte.f (a0 : ByteArray) (a1 : Int) : Option Int := some (Lib.indexByte a0.data.toList (UInt8.ofNat a1.toNat))
theorem strings_IndexByte.calls (a0 : ByteArray) (a1 : Int) (r : Int) (w : World) (h : strings_IndexByte.f a0 a1 = some r) :
 Calls Tryd.prog 154 #[.string a0, .int .u8 a1] w fun e w' => e = .returned (.int .i64 r) ∧ Drawn0 w w' := by
 obtain rfl := Option.some.inj h
 exact (Tryd.strings_IndexByte a0 a1 w).mono fun e w' ⟨he, hw⟩ => ⟨he, hw ▸ Drawn0.refl _⟩
def strings_Trim.f (a0 a1 : ByteArray) : Option ByteArray := if a0.size ≤ 140737488355328 ∧ a1.size ≤ 1000 ∧ a1.data.toList.all (fun b => decide (b.toNat < 128)) = true then some ⟨(Lib.trimS a0.data.toList a1.data.toList).toArray⟩ else none
theorem strings_Trim.calls (a0 a1 : ByteArray) (r : ByteArray) (w : World) (h : strings_Trim.f a0 a1 = some r) :
 Calls Tryd.prog 177 #[.string a0, .string a1] w fun e w' => e = .returned (.string r) ∧ Below w.heap.size w w' := by
 unfold strings_Trim.f at h
 split at h
 ·rename_i hs
  obtain rfl := Option.some.inj h
  exact Tryd.strings_Trim a0 a1 w (by omega) (by omega) (ascii_of_all hs.2.2)
 ·cases h
def dom_named.f (a0 : ByteArray) (a1 : ByteArray) : Option (Bool) := if a0.toList = ([] : List UInt8) then (some false) else (if (a0.size : Int) ≤ 40 then (if 0 < (a0.size : Int) then ((strings_IndexByte.f a1 (bt a0 0)).bind fun t156 => (if t156 ≥ 0 then ((strings_Trim.f a0 (⟨#[97, 98, 99, 100, 101, 102, 103, 104, 105, 106, 107, 108, 109, 110, 111, 112, 113, 114, 115, 116, 117, 118, 119, 120, 121, 122, 48, 49, 50, 51, 52, 53, 54, 55, 56, 57, 45, 95, 58]⟩ : ByteArray)).bind fun t157 => (some (t157.toList == ([] : List UInt8)))) else (some false))) else (none)) else (some false))
set_option maxHeartbeats 8000000 in
set_option maxRecDepth 100000 in
theorem dom_named.calls (a0 : ByteArray) (a1 : ByteArray) (r : Bool) (w : World) (h : dom_named.f a0 a1 = some r) :
 Calls Tryd.prog 159 #[.string a0, .string a1] w fun e w' => e = .returned (.bool r) ∧ Below w.heap.size w w' := by
 have HB := aS (Below.refl w.heap.size w)
 have H := h; clear h; unfold dom_named.f at H
 refine iE H ?p3 ?n3 <;> clear H
 case' p3 => intro c3b0 c3b1 H
 case' n3 => intro c3 c3b0 c3b1 H; refine iLN (m := a0.size) (n := 40) H rfl rfl ?p4 ?n4 <;> clear H
 case' p4 => intro c4b0 c4b1 H; refine iTNp (m := 0) (n := a0.size) H rfl rfl ?_; clear H; intro c5b0 c5b1 H; replace H := iB H; obtain ⟨t156, A7, H⟩ := H; refine iL H ?p8 ?n8 <;> clear H
 case' p8 => intro c8b0 H
 case' n8 => intro c8b0 H
 case' n4 => intro c4b0 c4b1 H
 case p3|n4 =>
  obtain rfl := Option.some.inj H
  go_enter Tryd.func159, Tryd.ntmps159
  go_wp2
  go_ret
  exact ⟨by first | rfl | (simp [q02, q01] <;> rfl) | (simp [*, q02, q01] <;> rfl), by repeat (first | (with_reducible first | exact HB.out | apply bA | apply bN | apply bD) | exact HB.out)⟩
 case p8 =>
  replace H := iB H
  obtain ⟨t157, A9, H⟩ := H
  obtain rfl := Option.some.inj H
  have p6 : 0 ≤ (0 : Int) := (by omega)
  have q6 : 0 < a0.size := (by have : (0 : Int) < (a0.size : Int) := od (by first | (with_reducible assumption) | assumption); omega)
  have hx6 : ∀ h : 0 < a0.size, ((a0[0]'h).toNat : Int) = bt a0 0 := bt_at a0 0
  clear p6
  have qi6 : (0 < (a0.size : Int)) = True := eq_true (od (by first | (with_reducible assumption) | assumption))
  replace q6 := eq_true q6
  go_enter Tryd.func159, Tryd.ntmps159
  go_wp2_with (first | (go_at_call 154; (with_reducible refine (strings_IndexByte.calls a1 (bt a0 0) t156 _ A7.out).mono ?_); rintro e w' ⟨rfl, ⟨nd, rfl⟩⟩) | (go_at_call 177; (with_reducible refine (strings_Trim.calls a0 (⟨#[97, 98, 99, 100, 101, 102, 103, 104, 105, 106, 107, 108, 109, 110, 111, 112, 113, 114, 115, 116, 117, 118, 119, 120, 121, 122, 48, 49, 50, 51, 52, 53, 54, 55, 56, 57, 45, 95, 58]⟩ : ByteArray) t157 _ A9.out).mono ?_); rintro e w10 ⟨rfl, hb⟩; replace HB := aS (q03 (by repeat (first | (with_reducible first | exact HB.out | apply bA | apply bN | apply bD) | exact HB.out)) hb); (try clear hb); (try clear hb2); (try clear hk); (try clear hi)))
  go_ret
  exact ⟨by first | rfl | (simp [q02, q01] <;> rfl) | (simp [*, q02, q01] <;> rfl), by repeat (first | (with_reducible first | exact HB.out | apply bA | apply bN | apply bD) | exact HB.out)⟩
 case n8 =>
  obtain rfl := Option.some.inj H
  have p6 : 0 ≤ (0 : Int) := (by omega)
  have q6 : 0 < a0.size := (by have : (0 : Int) < (a0.size : Int) := od (by first | (with_reducible assumption) | assumption); omega)
  have hx6 : ∀ h : 0 < a0.size, ((a0[0]'h).toNat : Int) = bt a0 0 := bt_at a0 0
  clear p6
  have qi6 : (0 < (a0.size : Int)) = True := eq_true (od (by first | (with_reducible assumption) | assumption))
  replace q6 := eq_true q6
  go_enter Tryd.func159, Tryd.ntmps159
  go_wp2_with (first | (go_at_call 154; (with_reducible refine (strings_IndexByte.calls a1 (bt a0 0) t156 _ A7.out).mono ?_); rintro e w' ⟨rfl, ⟨nd, rfl⟩⟩))
  go_ret
  exact ⟨by first | rfl | (simp [q02, q01] <;> rfl) | (simp [*, q02, q01] <;> rfl), by repeat (first | (with_reducible first | exact HB.out | apply bA | apply bN | apply bD) | exact HB.out)⟩
def dom_Name.f (a0 : ByteArray) : Option (Bool) := if 0 ≤ 26 then (if 26 ≤ 39 then ((dom_named.f a0 ((⟨#[97, 98, 99, 100, 101, 102, 103, 104, 105, 106, 107, 108, 109, 110, 111, 112, 113, 114, 115, 116, 117, 118, 119, 120, 121, 122, 48, 49, 50, 51, 52, 53, 54, 55, 56, 57, 45, 95, 58]⟩ : ByteArray).extract 0 26)).bind fun t158 => (some t158)) else (none)) else (none)
set_option maxHeartbeats 8000000 in
set_option maxRecDepth 100000 in
theorem dom_Name.calls (a0 : ByteArray) (r : Bool) (w : World) (h : dom_Name.f a0 = some r) :
 Calls Tryd.prog 136 #[.string a0] w fun e w' => e = .returned (.bool r) ∧ Below w.heap.size w w' := by
 have HB := aS (Below.refl w.heap.size w)
 have H := h; clear h; unfold dom_Name.f at H
 refine iGp H ?_; clear H; intro c2 H
 have c2b0 := eq_true c2
 have c2b1 : decide (0 ≤ 26) = true := decide_eq_true c2
 clear c2
 refine iGp H ?_; clear H; intro c3 H
 have c3b0 := eq_true c3
 have c3b1 : decide (26 ≤ 39) = true := decide_eq_true c3
 clear c3
 replace H := iB H
 obtain ⟨t158, A4, H⟩ := H
 obtain rfl := Option.some.inj H
 go_enter Tryd.func136, Tryd.ntmps136
 go_wp2_with (first | ((with_reducible refine q06 (f := 159) rfl ?_); refine q0k (some 5) rfl rfl Tryd.func159 (by kernel_rfl) rfl #[.string a0, .string ((⟨#[97, 98, 99, 100, 101, 102, 103, 104, 105, 106, 107, 108, 109, 110, 111, 112, 113, 114, 115, 116, 117, 118, 119, 120, 121, 122, 48, 49, 50, 51, 52, 53, 54, 55, 56, 57, 45, 95, 58]⟩ : ByteArray).extract 0 26)] rfl (by (try simp only [List.map_toArray, List.map_cons, List.map_nil]); first | done | rfl | (simp only [List.length_drop, List.length_take]; rfl)) ?_; (with_reducible refine (dom_named.calls a0 ((⟨#[97, 98, 99, 100, 101, 102, 103, 104, 105, 106, 107, 108, 109, 110, 111, 112, 113, 114, 115, 116, 117, 118, 119, 120, 121, 122, 48, 49, 50, 51, 52, 53, 54, 55, 56, 57, 45, 95, 58]⟩ : ByteArray).extract 0 26) t158 _ A4.out).mono ?_); rintro e w5 ⟨rfl, hb⟩; refine ⟨_, rfl, ?_⟩; replace HB := aS (q03 (by repeat (first | (with_reducible first | exact HB.out | apply bA | apply bN | apply bD) | exact HB.out)) hb); (try clear hb); (try clear hb2); (try clear hk); (try clear hi)))
 go_ret
 exact ⟨by first | rfl | (simp [q02, q01] <;> rfl) | (simp [*, q02, q01] <;> rfl), by repeat (first | (with_reducible first | exact HB.out | apply bA | apply bN | apply bD) | exact HB.out)⟩
set_option maxHeartbeats 2000000 in
theorem api_Attr.idx (A0 : Option Addr) (c0 : Nat) (l0 : List S122) (p : S122 → Bool) (g : Nat) (lb : Array Value) (eg : ∀ args w, (callFunc g args).run Tryd.prog w = .ok (.enter g args) w) (w : World) (hr0 : Kd.C k122 w A0 l0.length l0) (hn : l0.length ≤ 9223372036854775807)
 (hp : ∀ W x cs, x ∈ l0 → Below w.heap.size w W → (k122).K W x cs → Calls Tryd.prog g (#[.agg cs.toArray] ++ lb) W fun e w' => e = .returned (.bool (p x)) ∧ Below W.heap.size W w') :
 Calls Tryd.prog 141 #[.slice A0 l0.length c0, .func (.func g) #[] lb] w fun e w' => e = .returned (.int .i64 (Cl.idxOf p l0)) ∧ Below w.heap.size w w' := by
 have hC := aS hr0
 have HP := aS hp
 have HN := aS hn
 clear hr0 hp
 go_enter Tryd.func141, Tryd.ntmps141
 go_wp2
 go_loopg [5, 8] l0.length (fun gg _ s8 wr => ∃ kk : Nat, kk ≤ l0.length ∧ l0.length - kk ≤ gg ∧ s8 = .int .i64 kk ∧ Aside0 (Below w.heap.size w wr) ∧ Aside0 (∀ j, j < kk → p (l0.getD j z122) = false))
 case atStart => exact ⟨0, Nat.zero_le _, by omega, rfl, ⟨Below.refl _ w⟩, ⟨fun j hj => absurd hj (Nat.not_lt_zero _)⟩⟩
 case round =>
  obtain ⟨kk, hkk, hg, rfl, BW, HA⟩ := hrel
  by_cases hlt : kk < l0.length
  ·have hltz : (kk : Int) < (l0.length : Int) := by omega
   obtain ⟨ad, cs, rfl, hcl, hK, hcc⟩ := Cl.getC (Kd.C_below hC.out BW.out) z122 kk hlt
   have hcall := HP.out wr (l0.getD kk z122) cs (Cl.mem_getD l0 kk z122 hlt) BW.out hK
   have hcl' : cs.length = 2 := hcl
   have hcc' : ∀ j u, cs[j]? = some u → wr.cell? (ad.add (kk * 2 + j)) = some u := hcc
   obtain ⟨u0_, u1_, rfl⟩ : ∃ u0_ u1_, cs = [u0_, u1_] := by
    match cs, hcl' with
    | [u0_, u1_], _ => exact ⟨u0_, u1_, rfl⟩
   have hz0 : wr.cell? (ad.add (kk * 2)) = some u0_ := hcc' 0 _ rfl
   have hz1 : wr.cell? ⟨(ad.add (kk * 2)).block, (ad.add (kk * 2)).off + 1, none⟩ = some u1_ := by rw [← q1f _ _ 1 (by omega)]; exact hcc' 1 _ rfl
   replace hcall : Calls Tryd.prog g (#[.agg #[u0_, u1_]] ++ lb) wr _ := hcall
   clear hcl hcc hK hcc'
   obtain ⟨x, hx⟩ : ∃ x, l0.getD kk z122 = x := ⟨_, rfl⟩
   rw [hx] at hcall
   have HX := aS hx
   clear hx
   cases hq : p x with
   | true =>
    rw [hq] at hcall
    have HQ := aS hq
    clear hq
    go_wp2_with (go_at_fn g; refine hcall.mono ?_; rintro e w' ⟨rfl, hb'⟩)
    go_ret
    refine ⟨?_, BW.out.trans (hb'.mono BW.out.size)⟩
    rw [Cl.idxOf_hit p z122 l0 kk hlt (by rw [HX.out]; exact HQ.out) HA.out]
    rfl
   | false =>
    rw [hq] at hcall
    have HQ := aS hq
    clear hq
    go_wp2_with (go_at_fn g; refine hcall.mono ?_; rintro e w' ⟨rfl, hb'⟩)
    go_roundg (l0.length - (kk + 1))
    case measure => omega
    case rel =>
     refine ⟨kk + 1, by omega, by omega, by go_num, ⟨BW.out.trans (hb'.mono BW.out.size)⟩, ⟨fun j hj => ?_⟩⟩
     by_cases e : j = kk
     ·subst e
      rw [HX.out]; exact HQ.out
     ·exact HA.out j (by omega)
  ·have hltz : ¬ (kk : Int) < (l0.length : Int) := by omega
   have : kk = l0.length := by omega
   subst this
   go_wp2
   go_ret
   refine ⟨?_, BW.out⟩
   rw [Cl.idxOf_miss p z122 l0 HA.out]
   rfl
def dom_find.f (l0 : List S122) (a1 : ByteArray) : Option Int := if l0.length * 32 ≤ 140737488355328 then some (Cl.idxOf (fun x => x.f0.toList == a1.toList) l0) else none
theorem dom_find.calls (A0 : Option Addr) (c0 : Nat) (l0 : List S122) (a1 : ByteArray) (r : Int) (w : World) (hr0 : Kd.C k122 w A0 l0.length l0) (hc0 : l0.length ≤ c0) (h : dom_find.f l0 a1 = some r) :
 Calls Tryd.prog 112 #[.slice A0 l0.length c0, .string a1] w fun e w' => e = .returned (.int .i64 r) ∧ Below w.heap.size w w' := by
 unfold dom_find.f at h
 split at h
 ·rename_i hs0
  have hr := Option.some.inj h
  clear h
  have eg : ∀ args w, (callFunc 142 args).run Tryd.prog w = .ok (.enter 142 args) w := enters_of Tryd.func142 (by kernel_rfl) rfl
  have hb0 : Below w.heap.size w (w.alloc (.cells #[.string a1] 9)) := (Below.refl _ w).alloc (Nat.le_refl _) _
  have hH := api_Attr.idx A0 c0 l0 (fun x => x.f0.toList == a1.toList) 142 #[.pointer (some ⟨w.heap.size, 0, none⟩)] eg _ (Kd.C_below hr0 hb0) (by omega) (fun W x cs hx hb hK => by
   obtain rfl := k122_open hK
   have hcell : W.cell? ⟨w.heap.size, 0, none⟩ = some (.string a1) := (hb.cell (p := ⟨w.heap.size, 0, none⟩) (by simp)).trans (by simp)
   have hlt : w.heap.size < W.heap.size := Nat.lt_of_lt_of_le (by simp) hb.size
   show Calls Tryd.prog 142 #[.agg #[.string x.f0, .string x.f1], .pointer (some ⟨w.heap.size, 0, none⟩)] W _
   have hne : w.heap.size ≠ W.heap.size := by omega
   clear hb hr hr0 hb0 hx hK
   go_enter Tryd.func142, Tryd.ntmps142
   go_wp2
   go_ret
   exact ⟨by first | rfl | simp, (Below.refl _ W).alloc (Nat.le_refl _) _⟩)
  rw [hr] at hH
  clear hr hr0
  go_enter Tryd.func112, Tryd.ntmps112
  go_wp2_with (go_at_call 141; refine hH.mono ?_; rintro e w' ⟨rfl, hb'⟩)
  go_ret
  exact ⟨rfl, ((Below.refl _ w).alloc (Nat.le_refl _) _).trans (hb'.mono (by simp))⟩
 ·cases h
def dom_attrName.f (a0 : ByteArray) : Option (Bool) := if 0 ≤ 26 then (if 26 ≤ 39 then (if ((⟨#[97, 98, 99, 100, 101, 102, 103, 104, 105, 106, 107, 108, 109, 110, 111, 112, 113, 114, 115, 116, 117, 118, 119, 120, 121, 122, 48, 49, 50, 51, 52, 53, 54, 55, 56, 57, 45, 95, 58]⟩ : ByteArray).extract 0 26).size + 2 ≤ 9223372036854775807 then ((dom_named.f a0 (((⟨#[97, 98, 99, 100, 101, 102, 103, 104, 105, 106, 107, 108, 109, 110, 111, 112, 113, 114, 115, 116, 117, 118, 119, 120, 121, 122, 48, 49, 50, 51, 52, 53, 54, 55, 56, 57, 45, 95, 58]⟩ : ByteArray).extract 0 26) ++ (⟨#[45, 95]⟩ : ByteArray))).bind fun t159 => (some t159)) else (none)) else (none)) else (none)
set_option maxHeartbeats 8000000 in
set_option maxRecDepth 100000 in
theorem dom_attrName.calls (a0 : ByteArray) (r : Bool) (w : World) (h : dom_attrName.f a0 = some r) :
 Calls Tryd.prog 160 #[.string a0] w fun e w' => e = .returned (.bool r) ∧ Below w.heap.size w w' := by
 have HB := aS (Below.refl w.heap.size w)
 have H := h; clear h; unfold dom_attrName.f at H
 refine iGp H ?_; clear H; intro c2 H
 have c2b0 := eq_true c2
 have c2b1 : decide (0 ≤ 26) = true := decide_eq_true c2
 clear c2
 refine iGp H ?_; clear H; intro c3 H
 have c3b0 := eq_true c3
 have c3b1 : decide (26 ≤ 39) = true := decide_eq_true c3
 clear c3
 refine iGp H ?_; clear H; intro c4 H
 have c4b0 := eq_true c4
 have c4b1 : decide (((⟨#[97, 98, 99, 100, 101, 102, 103, 104, 105, 106, 107, 108, 109, 110, 111, 112, 113, 114, 115, 116, 117, 118, 119, 120, 121, 122, 48, 49, 50, 51, 52, 53, 54, 55, 56, 57, 45, 95, 58]⟩ : ByteArray).extract 0 26).size + 2 ≤ 9223372036854775807) = true := decide_eq_true c4
 try have c4b2 : (9223372036854775807 < ((⟨#[97, 98, 99, 100, 101, 102, 103, 104, 105, 106, 107, 108, 109, 110, 111, 112, 113, 114, 115, 116, 117, 118, 119, 120, 121, 122, 48, 49, 50, 51, 52, 53, 54, 55, 56, 57, 45, 95, 58]⟩ : ByteArray).extract 0 26).size + 2) = False := eq_false (Nat.not_lt.2 c4)
 replace H := iB H
 obtain ⟨t159, A5, H⟩ := H
 obtain rfl := Option.some.inj H
 go_enter Tryd.func160, Tryd.ntmps160
 go_wp2_with (first | ((with_reducible refine q06 (f := 159) rfl ?_); refine q0k (some 6) rfl rfl Tryd.func159 (by kernel_rfl) rfl #[.string a0, .string (((⟨#[97, 98, 99, 100, 101, 102, 103, 104, 105, 106, 107, 108, 109, 110, 111, 112, 113, 114, 115, 116, 117, 118, 119, 120, 121, 122, 48, 49, 50, 51, 52, 53, 54, 55, 56, 57, 45, 95, 58]⟩ : ByteArray).extract 0 26) ++ (⟨#[45, 95]⟩ : ByteArray))] rfl (by (try simp only [List.map_toArray, List.map_cons, List.map_nil]); first | done | rfl | (simp only [List.length_drop, List.length_take]; rfl)) ?_; (with_reducible refine (dom_named.calls a0 (((⟨#[97, 98, 99, 100, 101, 102, 103, 104, 105, 106, 107, 108, 109, 110, 111, 112, 113, 114, 115, 116, 117, 118, 119, 120, 121, 122, 48, 49, 50, 51, 52, 53, 54, 55, 56, 57, 45, 95, 58]⟩ : ByteArray).extract 0 26) ++ (⟨#[45, 95]⟩ : ByteArray)) t159 _ A5.out).mono ?_); rintro e w6 ⟨rfl, hb⟩; refine ⟨_, rfl, ?_⟩; replace HB := aS (q03 (by repeat (first | (with_reducible first | exact HB.out | apply bA | apply bN | apply bD) | exact HB.out)) hb); (try clear hb); (try clear hb2); (try clear hk); (try clear hi)))
 go_ret
 exact ⟨by first | rfl | (simp [q02, q01] <;> rfl) | (simp [*, q02, q01] <;> rfl), by repeat (first | (with_reducible first | exact HB.out | apply bA | apply bN | apply bD) | exact HB.out)⟩
def dom_attrs.l0 : Nat → List (S122) → List (S122) → Int → Int → Option (Int)
 | 0, _, _, _, _ => none
 | k + 1, x0, x8, x9, x10 => if x10 < x9 then (if 0 ≤ x10 then (if x10 < (x8.length : Int) then ((dom_attrName.f ((q0f x8 x10).f0)).bind fun t162 => (if t162 = true then (if (((q0f x8 x10).f1).size : Int) > 400 then (some 2) else (if x10 ≤ (x0.length : Int) then ((dom_find.f (x0.take (x10 : Int).toNat) ((q0f x8 x10).f0)).bind fun t167 => (if t167 ≥ 0 then (some 3) else (dom_attrs.l0 k x0 x8 x9 (wrap64 (x10 + 1))))) else (none))) else (some 3))) else (none)) else (none)) else (some 0)
def dom_attrs.f (k : Nat) (l0 : List (S122)) : Option (Int) := if (l0.length : Int) > 12 then (some 2) else (dom_attrs.l0 k l0 l0 (l0.length : Int) 0)
theorem dom_attrs.mono_l : ∀ k, (∀ y0 y1 y2 y3, LeO (dom_attrs.l0 k y0 y1 y2 y3) (dom_attrs.l0 (k + 1) y0 y1 y2 y3))
 | 0 => fun _ _ _ _ r h => by simp [dom_attrs.l0] at h
 | k + 1 => by
  have ih0 := dom_attrs.mono_l k
  ·intro y0 y1 y2 y3
   unfold dom_attrs.l0
   repeat' first | with_reducible first | apply ih0 | exact LeO.refl _ | exact LeO.none _ | refine LeO.ite ?_ ?_ | refine LeO.bind ?_ (fun _ => ?_) | (first | apply ih0 | exact LeO.none _ | refine LeO.ite ?_ ?_ | refine LeO.bind ?_ (fun _ => ?_))
theorem dom_attrs.mono : ∀ a0 k, LeO (dom_attrs.f k a0) (dom_attrs.f (k + 1) a0) := by
 intro a0 k
 have ih0 := dom_attrs.mono_l k
 unfold dom_attrs.f
 repeat' first | with_reducible first | apply ih0 | exact LeO.refl _ | exact LeO.none _ | refine LeO.ite ?_ ?_ | refine LeO.bind ?_ (fun _ => ?_) | (first | apply ih0 | exact LeO.none _ | refine LeO.ite ?_ ?_ | refine LeO.bind ?_ (fun _ => ?_))
def dom_attrs.T10 : Bool × List (List Nat × List Nat) := (true, [([], []), ([], []), ([0, 1], [0, 1]), ([], []), ([3], [3]), ([2, 4], [2, 4]), ([5], [5]), ([6, 5], [6])])
def dom_attrs.B10 : List Nat := [0, 0, 3, 0, 8, 31, 63, 127]
theorem dom_attrs.tab10 : rtab .any (opsOf Tryd.f137 10) = dom_attrs.T10 := by kernel_rfl
theorem dom_attrs.bits10 : q1l dom_attrs.T10.2 dom_attrs.B10 = true := by kernel_rfl
set_option maxHeartbeats 8000000 in
set_option maxRecDepth 100000 in
theorem dom_attrs.calls (k : Nat) (A0 : Option Addr) (c0 : Nat) (l0 : List (S122)) (r : Int) (w : World) (hr0 : Kd.C k122 w A0 l0.length l0) (hc0 : l0.length ≤ c0) (h : dom_attrs.f k l0 = some r) :
 Calls Tryd.prog 137 #[.slice A0 l0.length c0] w fun e w' => e = .returned (.int .i64 r) ∧ Below w.heap.size w w' := by
 have hu122 := Tryd.underlying122
 have HR0 := aS hr0
 have HC0 := aS hc0
 clear hr0 hc0
 have HB := aS (Below.refl w.heap.size w)
 have H := h; clear h; unfold dom_attrs.f at H
 refine iTN (m := 12) (n := l0.length) H rfl rfl ?p2 ?n2 <;> clear H
 case' p2 => intro c2b0 c2b1 H
 case' n2 => intro c2b0 c2b1 H
 case p2 =>
  obtain rfl := Option.some.inj H
  go_enter Tryd.func137, Tryd.ntmps137
  go_wp2
  go_ret
  exact ⟨by first | rfl | (simp [q02, q01] <;> rfl) | (simp [*, q02, q01] <;> rfl), by repeat (first | (with_reducible first | exact HB.out | apply bA | apply bN | apply bD) | exact HB.out)⟩
 case n2 =>
  have H' := aS H
  clear H
  go_enter Tryd.func137, Tryd.ntmps137
  go_wp2
  go_loopg [10] k (fun kq v10 w' => ∃ (x10_1 : Int), v10 = .int .i64 x10_1 ∧ Aside0 (dom_attrs.l0 kq l0 l0 (l0.length : Int) x10_1 = some r) ∧ Aside0 (kq ≤ k) ∧ Aside0 (Below w.heap.size w w'))
  case atStart => exact ⟨(0), (by first | rfl | (simp; done) | simp [*]), H', ⟨Nat.le_refl _⟩, ⟨by repeat (first | (with_reducible first | exact HB.out | apply bA | apply bN | apply bD) | exact HB.out)⟩⟩
  case round =>
   clear H'
   obtain ⟨x10_1, rfl, HA, HK1, HB⟩ := hrel
   cases gk with
   | zero => exact absurd HA.out (by simp [dom_attrs.l0])
   | succ k1 =>
    have H := HA.out
    clear HA
    simp only [dom_attrs.l0] at H
    refine iT H ?p3 ?n3 <;> clear H
    case' p3 => intro c3b0 H; refine iLp H ?_; clear H; intro c4b0 H; refine iTp H ?_; clear H; intro c5b0 H; replace H := iB H; obtain ⟨t162, A6, H⟩ := H; refine iV H ?p7 ?n7 <;> clear H
    case' p7 => intro c7 H; subst c7; refine iTN (m := 400) (n := ((q0f l0 x10_1).f1).size) H rfl rfl ?p8 ?n8 <;> clear H
    case' p8 => intro c8b0 c8b1 H
    case' n8 =>
     intro c8b0 c8b1 H
     have c13b0 := eq_true (od (by first | (with_reducible assumption) | assumption) : 0 ≤ x10_1)
     refine iGp H ?_; clear H; intro c14 H
     have c14b0 := eq_true c14
     have c14b1 : decide (x10_1 ≤ (l0.length : Int)) = true := decide_eq_true c14
     clear c14
     obtain ⟨y163, hy163⟩ : ∃ y_ : List (S122), y_ = (l0.take (x10_1 : Int).toNat) := ⟨_, rfl⟩
     replace H : ((dom_find.f y163 ((q0f l0 x10_1).f0)).bind fun t167 => (if t167 ≥ 0 then (some 3) else (dom_attrs.l0 k1 l0 l0 (l0.length : Int) (wrap64 (x10_1 + 1))))) = some r := by first | (rw [hy163]; with_reducible exact H) | (have H2_ := (Option.bind_some _ _).symm.trans H; rw [hy163]; with_reducible exact H2_) | (have H2_ := (Option.bind_some _ _).symm.trans H; with_reducible exact H2_) | with_reducible exact H | (rw [hy163]; exact H) | exact H
     have Ny163 := aS hy163
     clear hy163
     replace H := iB H
     obtain ⟨t167, A15, H⟩ := H
     obtain ⟨ad160, e160, hx160_0, hx160_1, p160, q160⟩ := q0y HB.out HR0.out x10_1 (by first | with_reducible assumption | assumption) (by first | with_reducible assumption | assumption)
     cases e160
     refine iL H ?p16 ?n16 <;> clear H
    case' p16 => intro c16b0 H
    case' n16 => intro c16b0 H
    case' n7 => intro c7 H; subst c7
    case' n3 => intro c3b0 H
    case p8 =>
     obtain rfl := Option.some.inj H
     obtain ⟨ad160, e160, hx160_0, hx160_1, p160, q160⟩ := q0y HB.out HR0.out x10_1 (by first | with_reducible assumption | assumption) (by first | with_reducible assumption | assumption)
     cases e160
     go_wp2_with (first | ((with_reducible refine q0c (N := 4) rfl ?_); refine box0 rfl (N := 4) rfl (cs := #[.string (⟨#[]⟩ : ByteArray), .string (⟨#[]⟩ : ByteArray)]) (t := 122) (by first | (go_simp; done) | (go_simp; rfl)) (by repeat (first | (with_reducible first | exact HB.out | apply bA | apply bN | apply bD) | exact HB.out)) ?_; clear HB; intro gb161 w9 BK161 GW161 HB; have GE161 := GW161; obtain ⟨hczL_0, hczL_1, hfzL_0, hfzL_1⟩ := bk2 BK161.out) | ((with_reducible refine q06 (f := 160) rfl ?_); refine q0k (some 18) rfl rfl Tryd.func160 (by kernel_rfl) rfl #[.string ((q0f l0 x10_1).f0)] rfl (by (try simp only [List.map_toArray, List.map_cons, List.map_nil]); first | done | rfl | (simp only [List.length_drop, List.length_take]; rfl)) ?_; (with_reducible refine (dom_attrName.calls ((q0f l0 x10_1).f0) true _ A6.out).mono ?_); rintro e w11 ⟨rfl, hb⟩; refine ⟨_, rfl, ?_⟩; replace BK161 := aS (q08 (g := gb161) (o := .cells #[.string ((q0f l0 x10_1).f0), .string ((q0f l0 x10_1).f1)] 122 (0, 0)) (by (with_reducible repeat (first | refine kN ?_ _ | refine kD ?_ | refine kA ?_ _)); refine q0t (cs := #[.string ((q0f l0 x10_1).f0), .string (⟨#[]⟩ : ByteArray)]) ?_ 1 _ rfl; (with_reducible repeat (first | refine kN ?_ _ | refine kD ?_ | refine kA ?_ _)); refine q0t (cs := #[.string (⟨#[]⟩ : ByteArray), .string (⟨#[]⟩ : ByteArray)]) ?_ 0 _ rfl; (with_reducible repeat (first | refine kN ?_ _ | refine kD ?_ | refine kA ?_ _)); exact BK161.out) hb); replace HB := aS (q03 (by repeat (first | (with_reducible first | exact HB.out | apply bA | apply bN | apply bD | refine bS ?_ GE161.out) | exact HB.out)) hb); (try clear hb); (try clear hb2); (try clear hk); (try clear hi); obtain ⟨hczL_0, hczL_1, hfzL_0, hfzL_1⟩ := bk2 BK161.out))
     go_ret
     exact ⟨by first | rfl | (simp [q02, q01] <;> rfl) | (simp [*, q02, q01] <;> rfl), by repeat (first | (with_reducible first | exact HB.out | apply bA | apply bN | apply bD | refine bS ?_ GE161.out) | exact HB.out)⟩
    case p16 =>
     obtain rfl := Option.some.inj H
     try go_wp2_with (first | ((with_reducible refine q0c (N := 4) rfl ?_); refine box0 rfl (N := 4) rfl (cs := #[.string (⟨#[]⟩ : ByteArray), .string (⟨#[]⟩ : ByteArray)]) (t := 122) (by first | (go_simp; done) | (go_simp; rfl)) (by repeat (first | (with_reducible first | exact HB.out | apply bA | apply bN | apply bD) | exact HB.out)) ?_; clear HB; intro gb161 w17 BK161 GW161 HB; have GE161 := GW161; obtain ⟨hczL_0, hczL_1, hfzL_0, hfzL_1⟩ := bk2 BK161.out) | ((with_reducible refine q06 (f := 160) rfl ?_); refine q0k (some 18) rfl rfl Tryd.func160 (by kernel_rfl) rfl #[.string ((q0f l0 x10_1).f0)] rfl (by (try simp only [List.map_toArray, List.map_cons, List.map_nil]); first | done | rfl | (simp only [List.length_drop, List.length_take]; rfl)) ?_; (with_reducible refine (dom_attrName.calls ((q0f l0 x10_1).f0) true _ A6.out).mono ?_); rintro e w19 ⟨rfl, hb⟩; refine ⟨_, rfl, ?_⟩; replace BK161 := aS (q08 (g := gb161) (o := .cells #[.string ((q0f l0 x10_1).f0), .string ((q0f l0 x10_1).f1)] 122 (0, 0)) (by (with_reducible repeat (first | refine kN ?_ _ | refine kD ?_ | refine kA ?_ _)); refine q0t (cs := #[.string ((q0f l0 x10_1).f0), .string (⟨#[]⟩ : ByteArray)]) ?_ 1 _ rfl; (with_reducible repeat (first | refine kN ?_ _ | refine kD ?_ | refine kA ?_ _)); refine q0t (cs := #[.string (⟨#[]⟩ : ByteArray), .string (⟨#[]⟩ : ByteArray)]) ?_ 0 _ rfl; (with_reducible repeat (first | refine kN ?_ _ | refine kD ?_ | refine kA ?_ _)); exact BK161.out) hb); replace HB := aS (q03 (by repeat (first | (with_reducible first | exact HB.out | apply bA | apply bN | apply bD | refine bS ?_ GE161.out) | exact HB.out)) hb); (try clear hb); (try clear hb2); (try clear hk); (try clear hi); obtain ⟨hczL_0, hczL_1, hfzL_0, hfzL_1⟩ := bk2 BK161.out))
     have n0_ := aS (q1e BK161.out)
     have n1_ := aS (q0s HB.out)
     clear BK161
     clear HB
     have BK161 := n0_
     have HB := n1_
     clear n0_ n1_
     have q22 : (x10_1 : Int) ≤ ((l0.length : Int) : Int) := od (by first | (with_reducible assumption) | assumption)
     obtain ⟨i022, hi022, _, hsz22, _⟩ := info_parts info122
     have hroom22 : l0.length ≤ c0 := HC0.out
     have hC22 : Kd.C k122 _ (some ad160) l0.length l0 := HR0.out
     have hcut22 := cut_to (P := Tryd.prog) 41 122 .i64 Tryd.underlying41 hi022 (some ad160) l0.length c0 x10_1 (od (by first | (with_reducible assumption) | assumption)) q22 hroom22
     have hr22 := Kd.C_take (m := (x10_1 : Int).toNat) hC22 (by omega)
     have hy22 : y163.length = (x10_1 : Int).toNat := (by rw [Ny163.out, List.length_take]; omega)
     rw [← Ny163.out] at hr22
     rw [← hy22] at hcut22
     have HR166 := aS hr22
     have HC166 := aS (show y163.length ≤ c0 from by omega)
     clear hr22 hC22 hroom22 hi022 hsz22
     have KY22 := aS hy22
     clear hy22
     replace q22 := eq_true q22
     refine start_ (n := 8) (S := fun w' => w'.cell? ⟨gb161, 0, none⟩ = some (.string ((q0f l0 x10_1).f0)) ∧ w'.cell? ⟨gb161, 1, none⟩ = some (.string ((q0f l0 x10_1).f1))) (ds := []) #[false, false, false, false, false, false, false, false] (by kernel_rfl) rfl rfl ⟨(q05 BK161.out 0).trans rfl, (q05 BK161.out 1).trans rfl⟩ (fun hHeld => ?_); refine q1c dom_attrs.tab10 dom_attrs.bits10 (fun HT_ HW_ => ?_)
     generalize w19.drew = w21 at BK161 HB HR166 hHeld ⊢
     refine q0o (i := 0) (N := some 26) (v := ?_) (a' := ?_) #[true, false, false, false, false, false, false, false] rfl rfl (q0i HT_.out (by kernel_rfl)) (fun _ _ _ h => h) (Or.inl ⟨by rfl, ?_⟩) ?_ ?_
     rotate_left
     ·intro w'
      go_simp
      with_reducible rfl
     rotate_left
     ·simp only [Act.put, s1, s2, s3, q0d, q0e]
      rfl
     refine q0o (i := 1) (N := some 27) (v := ?_) (a' := ?_) #[true, true, false, false, false, false, false, false] rfl rfl (q0i HT_.out (by kernel_rfl)) (fun _ _ _ h => h) (Or.inl ⟨by rfl, ?_⟩) ?_ ?_
     rotate_left
     ·intro w'
      go_simp
      with_reducible rfl
     rotate_left
     ·simp only [Act.put, s1, s2, s3, q0d, q0e]
      rfl
     refine q0o (i := 2) (N := some 28) (v := ?_) (a' := ?_) #[true, true, true, false, false, false, false, false] rfl rfl (q0i HT_.out (by kernel_rfl)) (fun _ _ _ h => h) (Or.inl ⟨by rfl, ?_⟩) ?_ ?_
     rotate_left
     ·intro w'
      go_simp
      with_reducible rfl
     rotate_left
     ·simp only [Act.put, s1, s2, s3, q0d, q0e]
      rfl
     refine q0o (i := 3) (N := some 29) (v := ?_) (a' := ?_) #[true, true, true, true, false, false, false, false] rfl rfl (q0i HT_.out (by kernel_rfl)) (fun _ _ _ h => h) (Or.inl ⟨by rfl, ?_⟩) ?_ ?_
     rotate_left
     ·intro w'
      go_simp
      with_reducible rfl
     rotate_left
     ·simp only [Act.put, s1, s2, s3, q0d, q0e]
      rfl
     refine take_ (i := 4) (N := some 30) (v := ?_) (a' := ?_) #[true, true, true, true, true, false, false, false] rfl rfl (q0r HT_.out HW_.out (by kernel_rfl)) (fun _ _ _ h => h) (Or.inl ⟨by rfl, ?_⟩) hHeld ?_ ?_
     rotate_left
     ·rintro w' ⟨s0, s1⟩
      go_simp
      with_reducible rfl
     rotate_left
     ·simp only [Act.put, s1, s2, s3, q0d, q0e]
      rfl
     refine one_ (i := 5) (N := some 31) #[true, true, true, true, true, true, false, false] rfl rfl (one_of HT_.out (by kernel_rfl)) (by decide) (fun K hK => ?_)
     refine goes_ Tryd.func112 (by kernel_rfl) rfl #[.slice (some ad160) y163.length c0, .string ((q0f l0 x10_1).f0)] (by rfl) rfl rfl (by (try simp only [List.map_toArray, List.map_cons, List.map_nil]); first | done | rfl | (simp only [List.length_drop, List.length_take]; rfl)) ?_
     with_reducible refine (dom_find.calls _ _ y163 ((q0f l0 x10_1).f0) t167 _ ?side1 ?side2 A15.out).mono ?_
     (case side1 => repeat (first | exact (Kd.C_below HR166.out HB.out) | (with_reducible refine cA ?_ _) | (with_reducible refine cN ?_ _) | (with_reducible refine cD ?_)))
     (case side2 => exact HC166.out)
     rintro e w23 ⟨rfl, hb⟩
     refine ⟨_, rfl, ?_⟩
     have n0_ := aS (q08 (g := gb161) (o := .cells #[.string ((q0f l0 x10_1).f0), .string ((q0f l0 x10_1).f1)] 122 (0, 0)) (by (with_reducible repeat (first | refine kN ?_ _ | refine kD ?_ | refine kA ?_ _)); exact BK161.out) hb)
     have n1_ := aS (q03 (by repeat (first | (with_reducible first | exact HB.out | apply bA | apply bN | apply bD | refine bS ?_ GE161.out) | exact HB.out)) hb)
     clear BK161
     clear HB
     have BK161 := n0_
     have HB := n1_
     clear n0_ n1_
     (try clear hb)
     (try clear hb2)
     (try clear hk)
     (try clear hi)
     refine hK.out _ _ ⟨(q05 BK161.out 0).trans rfl, (q05 BK161.out 1).trans rfl⟩ (fun hHeld => ?_)
     clear hK K
     refine norm_ (a' := ?_) ?_ ?_
     rotate_left
     ·show Act.put _ (some 31) _ = _
      simp only [Act.put, s1, s2, s3, q0d, q0e]
      rfl
     refine q0o (i := 6) (N := some 32) (v := ?_) (a' := ?_) #[true, true, true, true, true, true, true, false] rfl rfl (q0i HT_.out (by kernel_rfl)) (fun _ _ _ h => h) (Or.inl ⟨by rfl, ?_⟩) ?_ ?_
     rotate_left
     ·intro w'
      go_simp
      with_reducible rfl
     rotate_left
     ·simp only [Act.put, s1, s2, s3, q0d, q0e]
      rfl
     refine q0o (i := 7) (N := some 25) (v := ?_) (a' := ?_) #[true, true, true, true, true, true, true, true] rfl rfl (q0i HT_.out (by kernel_rfl)) (fun _ _ _ h => h) (Or.inl ⟨by rfl, ?_⟩) ?_ ?_
     rotate_left
     ·intro w'
      go_simp
      with_reducible rfl
     rotate_left
     ·simp only [Act.put, s1, s2, s3, q0d, q0e]
      rfl
     refine done_ (done_of HT_.out (by kernel_rfl)) ?_
     try go_wp2
     go_ret
     exact ⟨by first | rfl | (simp [q02, q01] <;> rfl) | (simp [*, q02, q01] <;> rfl), by repeat (first | (with_reducible first | exact HB.out | apply bA | apply bN | apply bD | refine bS ?_ GE161.out) | exact HB.out)⟩
    case n16 =>
     have H' := aS H
     clear H
     try go_wp2_with (first | ((with_reducible refine q0c (N := 4) rfl ?_); refine box0 rfl (N := 4) rfl (cs := #[.string (⟨#[]⟩ : ByteArray), .string (⟨#[]⟩ : ByteArray)]) (t := 122) (by first | (go_simp; done) | (go_simp; rfl)) (by repeat (first | (with_reducible first | exact HB.out | apply bA | apply bN | apply bD) | exact HB.out)) ?_; clear HB; intro gb161 w24 BK161 GW161 HB; have GE161 := GW161; obtain ⟨hczL_0, hczL_1, hfzL_0, hfzL_1⟩ := bk2 BK161.out) | ((with_reducible refine q06 (f := 160) rfl ?_); refine q0k (some 18) rfl rfl Tryd.func160 (by kernel_rfl) rfl #[.string ((q0f l0 x10_1).f0)] rfl (by (try simp only [List.map_toArray, List.map_cons, List.map_nil]); first | done | rfl | (simp only [List.length_drop, List.length_take]; rfl)) ?_; (with_reducible refine (dom_attrName.calls ((q0f l0 x10_1).f0) true _ A6.out).mono ?_); rintro e w26 ⟨rfl, hb⟩; refine ⟨_, rfl, ?_⟩; replace BK161 := aS (q08 (g := gb161) (o := .cells #[.string ((q0f l0 x10_1).f0), .string ((q0f l0 x10_1).f1)] 122 (0, 0)) (by (with_reducible repeat (first | refine kN ?_ _ | refine kD ?_ | refine kA ?_ _)); refine q0t (cs := #[.string ((q0f l0 x10_1).f0), .string (⟨#[]⟩ : ByteArray)]) ?_ 1 _ rfl; (with_reducible repeat (first | refine kN ?_ _ | refine kD ?_ | refine kA ?_ _)); refine q0t (cs := #[.string (⟨#[]⟩ : ByteArray), .string (⟨#[]⟩ : ByteArray)]) ?_ 0 _ rfl; (with_reducible repeat (first | refine kN ?_ _ | refine kD ?_ | refine kA ?_ _)); exact BK161.out) hb); replace HB := aS (q03 (by repeat (first | (with_reducible first | exact HB.out | apply bA | apply bN | apply bD | refine bS ?_ GE161.out) | exact HB.out)) hb); (try clear hb); (try clear hb2); (try clear hk); (try clear hi); obtain ⟨hczL_0, hczL_1, hfzL_0, hfzL_1⟩ := bk2 BK161.out))
     have n0_ := aS (q1e BK161.out)
     have n1_ := aS (q0s HB.out)
     clear BK161
     clear HB
     have BK161 := n0_
     have HB := n1_
     clear n0_ n1_
     have q29 : (x10_1 : Int) ≤ ((l0.length : Int) : Int) := od (by first | (with_reducible assumption) | assumption)
     obtain ⟨i029, hi029, _, hsz29, _⟩ := info_parts info122
     have hroom29 : l0.length ≤ c0 := HC0.out
     have hC29 : Kd.C k122 _ (some ad160) l0.length l0 := HR0.out
     have hcut29 := cut_to (P := Tryd.prog) 41 122 .i64 Tryd.underlying41 hi029 (some ad160) l0.length c0 x10_1 (od (by first | (with_reducible assumption) | assumption)) q29 hroom29
     have hr29 := Kd.C_take (m := (x10_1 : Int).toNat) hC29 (by omega)
     have hy29 : y163.length = (x10_1 : Int).toNat := (by rw [Ny163.out, List.length_take]; omega)
     rw [← Ny163.out] at hr29
     rw [← hy29] at hcut29
     have HR166 := aS hr29
     have HC166 := aS (show y163.length ≤ c0 from by omega)
     clear hr29 hC29 hroom29 hi029 hsz29
     have KY29 := aS hy29
     clear hy29
     replace q29 := eq_true q29
     refine start_ (n := 8) (S := fun w' => w'.cell? ⟨gb161, 0, none⟩ = some (.string ((q0f l0 x10_1).f0)) ∧ w'.cell? ⟨gb161, 1, none⟩ = some (.string ((q0f l0 x10_1).f1))) (ds := []) #[false, false, false, false, false, false, false, false] (by kernel_rfl) rfl rfl ⟨(q05 BK161.out 0).trans rfl, (q05 BK161.out 1).trans rfl⟩ (fun hHeld => ?_); refine q1c dom_attrs.tab10 dom_attrs.bits10 (fun HT_ HW_ => ?_)
     generalize w26.drew = w28 at BK161 HB HR166 hHeld ⊢
     refine q0o (i := 0) (N := some 26) (v := ?_) (a' := ?_) #[true, false, false, false, false, false, false, false] rfl rfl (q0i HT_.out (by kernel_rfl)) (fun _ _ _ h => h) (Or.inl ⟨by rfl, ?_⟩) ?_ ?_
     rotate_left
     ·intro w'
      go_simp
      with_reducible rfl
     rotate_left
     ·simp only [Act.put, s1, s2, s3, q0d, q0e]
      rfl
     refine q0o (i := 1) (N := some 27) (v := ?_) (a' := ?_) #[true, true, false, false, false, false, false, false] rfl rfl (q0i HT_.out (by kernel_rfl)) (fun _ _ _ h => h) (Or.inl ⟨by rfl, ?_⟩) ?_ ?_
     rotate_left
     ·intro w'
      go_simp
      with_reducible rfl
     rotate_left
     ·simp only [Act.put, s1, s2, s3, q0d, q0e]
      rfl
     refine q0o (i := 2) (N := some 28) (v := ?_) (a' := ?_) #[true, true, true, false, false, false, false, false] rfl rfl (q0i HT_.out (by kernel_rfl)) (fun _ _ _ h => h) (Or.inl ⟨by rfl, ?_⟩) ?_ ?_
     rotate_left
     ·intro w'
      go_simp
      with_reducible rfl
     rotate_left
     ·simp only [Act.put, s1, s2, s3, q0d, q0e]
      rfl
     refine q0o (i := 3) (N := some 29) (v := ?_) (a' := ?_) #[true, true, true, true, false, false, false, false] rfl rfl (q0i HT_.out (by kernel_rfl)) (fun _ _ _ h => h) (Or.inl ⟨by rfl, ?_⟩) ?_ ?_
     rotate_left
     ·intro w'
      go_simp
      with_reducible rfl
     rotate_left
     ·simp only [Act.put, s1, s2, s3, q0d, q0e]
      rfl
     refine take_ (i := 4) (N := some 30) (v := ?_) (a' := ?_) #[true, true, true, true, true, false, false, false] rfl rfl (q0r HT_.out HW_.out (by kernel_rfl)) (fun _ _ _ h => h) (Or.inl ⟨by rfl, ?_⟩) hHeld ?_ ?_
     rotate_left
     ·rintro w' ⟨s0, s1⟩
      go_simp
      with_reducible rfl
     rotate_left
     ·simp only [Act.put, s1, s2, s3, q0d, q0e]
      rfl
     refine one_ (i := 5) (N := some 31) #[true, true, true, true, true, true, false, false] rfl rfl (one_of HT_.out (by kernel_rfl)) (by decide) (fun K hK => ?_)
     refine goes_ Tryd.func112 (by kernel_rfl) rfl #[.slice (some ad160) y163.length c0, .string ((q0f l0 x10_1).f0)] (by rfl) rfl rfl (by (try simp only [List.map_toArray, List.map_cons, List.map_nil]); first | done | rfl | (simp only [List.length_drop, List.length_take]; rfl)) ?_
     with_reducible refine (dom_find.calls _ _ y163 ((q0f l0 x10_1).f0) t167 _ ?side1 ?side2 A15.out).mono ?_
     (case side1 => repeat (first | exact (Kd.C_below HR166.out HB.out) | (with_reducible refine cA ?_ _) | (with_reducible refine cN ?_ _) | (with_reducible refine cD ?_)))
     (case side2 => exact HC166.out)
     rintro e w30 ⟨rfl, hb⟩
     refine ⟨_, rfl, ?_⟩
     have n0_ := aS (q08 (g := gb161) (o := .cells #[.string ((q0f l0 x10_1).f0), .string ((q0f l0 x10_1).f1)] 122 (0, 0)) (by (with_reducible repeat (first | refine kN ?_ _ | refine kD ?_ | refine kA ?_ _)); exact BK161.out) hb)
     have n1_ := aS (q03 (by repeat (first | (with_reducible first | exact HB.out | apply bA | apply bN | apply bD | refine bS ?_ GE161.out) | exact HB.out)) hb)
     clear BK161
     clear HB
     have BK161 := n0_
     have HB := n1_
     clear n0_ n1_
     (try clear hb)
     (try clear hb2)
     (try clear hk)
     (try clear hi)
     refine hK.out _ _ ⟨(q05 BK161.out 0).trans rfl, (q05 BK161.out 1).trans rfl⟩ (fun hHeld => ?_)
     clear hK K
     refine norm_ (a' := ?_) ?_ ?_
     rotate_left
     ·show Act.put _ (some 31) _ = _
      simp only [Act.put, s1, s2, s3, q0d, q0e]
      rfl
     refine q0o (i := 6) (N := some 32) (v := ?_) (a' := ?_) #[true, true, true, true, true, true, true, false] rfl rfl (q0i HT_.out (by kernel_rfl)) (fun _ _ _ h => h) (Or.inl ⟨by rfl, ?_⟩) ?_ ?_
     rotate_left
     ·intro w'
      go_simp
      with_reducible rfl
     rotate_left
     ·simp only [Act.put, s1, s2, s3, q0d, q0e]
      rfl
     refine q0o (i := 7) (N := some 25) (v := ?_) (a' := ?_) #[true, true, true, true, true, true, true, true] rfl rfl (q0i HT_.out (by kernel_rfl)) (fun _ _ _ h => h) (Or.inl ⟨by rfl, ?_⟩) ?_ ?_
     rotate_left
     ·intro w'
      go_simp
      with_reducible rfl
     rotate_left
     ·simp only [Act.put, s1, s2, s3, q0d, q0e]
      rfl
     refine done_ (done_of HT_.out (by kernel_rfl)) ?_
     try go_wp2
     go_roundg k1
     case measure => have := HK1.out; omega
     case rel => exact ⟨(wrap64 (x10_1 + 1)), (by first | rfl | (simp; done) | simp [*]), H', ⟨by have := HK1.out; omega⟩, ⟨by repeat (first | (with_reducible first | exact HB.out | apply bA | apply bN | apply bD | refine bS ?_ GE161.out) | exact HB.out)⟩⟩
    case n7 =>
     obtain rfl := Option.some.inj H
     obtain ⟨ad160, e160, hx160_0, hx160_1, p160, q160⟩ := q0y HB.out HR0.out x10_1 (by first | with_reducible assumption | assumption) (by first | with_reducible assumption | assumption)
     cases e160
     go_wp2_with (first | ((with_reducible refine q0c (N := 4) rfl ?_); refine box0 rfl (N := 4) rfl (cs := #[.string (⟨#[]⟩ : ByteArray), .string (⟨#[]⟩ : ByteArray)]) (t := 122) (by first | (go_simp; done) | (go_simp; rfl)) (by repeat (first | (with_reducible first | exact HB.out | apply bA | apply bN | apply bD) | exact HB.out)) ?_; clear HB; intro gb161 w31 BK161 GW161 HB; have GE161 := GW161; obtain ⟨hczL_0, hczL_1, hfzL_0, hfzL_1⟩ := bk2 BK161.out) | ((with_reducible refine q06 (f := 160) rfl ?_); refine q0k (some 18) rfl rfl Tryd.func160 (by kernel_rfl) rfl #[.string ((q0f l0 x10_1).f0)] rfl (by (try simp only [List.map_toArray, List.map_cons, List.map_nil]); first | done | rfl | (simp only [List.length_drop, List.length_take]; rfl)) ?_; (with_reducible refine (dom_attrName.calls ((q0f l0 x10_1).f0) false _ A6.out).mono ?_); rintro e w33 ⟨rfl, hb⟩; refine ⟨_, rfl, ?_⟩; replace BK161 := aS (q08 (g := gb161) (o := .cells #[.string ((q0f l0 x10_1).f0), .string ((q0f l0 x10_1).f1)] 122 (0, 0)) (by (with_reducible repeat (first | refine kN ?_ _ | refine kD ?_ | refine kA ?_ _)); refine q0t (cs := #[.string ((q0f l0 x10_1).f0), .string (⟨#[]⟩ : ByteArray)]) ?_ 1 _ rfl; (with_reducible repeat (first | refine kN ?_ _ | refine kD ?_ | refine kA ?_ _)); refine q0t (cs := #[.string (⟨#[]⟩ : ByteArray), .string (⟨#[]⟩ : ByteArray)]) ?_ 0 _ rfl; (with_reducible repeat (first | refine kN ?_ _ | refine kD ?_ | refine kA ?_ _)); exact BK161.out) hb); replace HB := aS (q03 (by repeat (first | (with_reducible first | exact HB.out | apply bA | apply bN | apply bD | refine bS ?_ GE161.out) | exact HB.out)) hb); (try clear hb); (try clear hb2); (try clear hk); (try clear hi)))
     go_ret
     exact ⟨by first | rfl | (simp [q02, q01] <;> rfl) | (simp [*, q02, q01] <;> rfl), by repeat (first | (with_reducible first | exact HB.out | apply bA | apply bN | apply bD | refine bS ?_ GE161.out) | exact HB.out)⟩
    case n3 =>
     obtain rfl := Option.some.inj H
     go_wp2
     go_ret
     exact ⟨by first | rfl | (simp [q02, q01] <;> rfl) | (simp [*, q02, q01] <;> rfl), by repeat (first | (with_reducible first | exact HB.out | apply bA | apply bN | apply bD) | exact HB.out)⟩
end Go.Proofs.YthjnallbbhnndaaDoor.XWp
namespace Go.Proofs.YthjnallbbhnndaaDoor.XWp
open Go.Proofs.YthjnallbbhnndaaDoor.Short Go.RowKit Go.Proofs.YthjnallbbhnndaaDoorW.PrintWords Go.Proofs.YthjnallbbhnndaaDoorW.PrintLast Go.Proofs.YthjnallbbhnndaaDoorW.PrintMore
attribute [local go_sem] q15 q13 q1i q1h q0x q0w q14 q12   -- for this text's walks alone
set_option linter.unusedVariables false
set_option linter.unusedSimpArgs false
mutual
def dom_one.j1 : Nat → Int → ByteArray → List (S122) → ByteArray → Int → List Int → Option (Int)
 | 0, _, _, _, _, _, _ => none
 | k + 1, x169000, x169001, x169002, x169003, x169004, x169005 => (dom_attrs.f k x169002).bind fun t171 => (if t171 = 0 then (if (x169003.size : Int) > 400 then (some 2) else (if (x169001.size : Int) > 400 then (some 2) else (some 0))) else (some t171))
def dom_one.j0 : Nat → Bool → Int → ByteArray → List (S122) → ByteArray → Int → List Int → Option (Int)
 | 0, _, _, _, _, _, _, _ => none
 | k + 1, x4, x169000, x169001, x169002, x169003, x169004, x169005 => if x4 = true then (some 7) else (if x169000 = 2 then ((dom_Name.f x169001).bind fun t170 => (if t170 = true then (dom_one.j1 k x169000 x169001 x169002 x169003 x169004 x169005) else (some 3))) else (dom_one.j1 k x169000 x169001 x169002 x169003 x169004 x169005))
end
def dom_one.f (k : Nat) (a0_0 : Int) (a0_1 : ByteArray) (l0_2 : List (S122)) (a0_3 : ByteArray) (a0_4 : Int) (l0_5 : List Int) : Option (Int) := if a0_0 < 1 then (dom_one.j0 k true a0_0 a0_1 l0_2 a0_3 a0_4 l0_5) else (if a0_0 > 5 then (dom_one.j0 k true a0_0 a0_1 l0_2 a0_3 a0_4 l0_5) else ((dom_bare.f a0_0 a0_1 l0_2 a0_3 a0_4 l0_5).bind fun t169 => (dom_one.j0 k (!t169) a0_0 a0_1 l0_2 a0_3 a0_4 l0_5)))
theorem dom_one.mono_l : ∀ k, (∀ y0 y1 y2 y3 y4 y5, LeO (dom_one.j1 k y0 y1 y2 y3 y4 y5) (dom_one.j1 (k + 1) y0 y1 y2 y3 y4 y5)) ∧ (∀ y0 y1 y2 y3 y4 y5 y6, LeO (dom_one.j0 k y0 y1 y2 y3 y4 y5 y6) (dom_one.j0 (k + 1) y0 y1 y2 y3 y4 y5 y6))
 | 0 => ⟨fun _ _ _ _ _ _ r h => by simp [dom_one.j1] at h, fun _ _ _ _ _ _ _ r h => by simp [dom_one.j0] at h⟩
 | k + 1 => by
  obtain ⟨ih0, ih1⟩ := dom_one.mono_l k
  refine ⟨?_, ?_⟩
  all_goals intros
  all_goals (first | unfold dom_one.j1 | unfold dom_one.j0)
  all_goals (repeat' first | with_reducible first | apply ih0 | apply ih1 | apply dom_attrs.mono | exact LeO.refl _ | exact LeO.none _ | refine LeO.ite ?_ ?_ | refine LeO.bind ?_ (fun _ => ?_) | (first | apply ih0 | apply ih1 | apply dom_attrs.mono | exact LeO.none _ | refine LeO.ite ?_ ?_ | refine LeO.bind ?_ (fun _ => ?_)))
theorem dom_one.mono : ∀ a0 a1 a2 a3 a4 a5 k, LeO (dom_one.f k a0 a1 a2 a3 a4 a5) (dom_one.f (k + 1) a0 a1 a2 a3 a4 a5) := by
 intro a0 a1 a2 a3 a4 a5 k
 obtain ⟨ih0, ih1⟩ := dom_one.mono_l k
 unfold dom_one.f
 repeat' first | with_reducible first | apply ih0 | apply ih1 | apply dom_attrs.mono | exact LeO.refl _ | exact LeO.none _ | refine LeO.ite ?_ ?_ | refine LeO.bind ?_ (fun _ => ?_) | (first | apply ih0 | apply ih1 | apply dom_attrs.mono | exact LeO.none _ | refine LeO.ite ?_ ?_ | refine LeO.bind ?_ (fun _ => ?_))
set_option maxHeartbeats 8000000 in
set_option maxRecDepth 100000 in
theorem dom_one.calls (k : Nat) (a0_0 : Int) (a0_1 : ByteArray) (A0_2 : Option Addr) (c0_2 : Nat) (l0_2 : List (S122)) (a0_3 : ByteArray) (a0_4 : Int) (A0_5 : Option Addr) (c0_5 : Nat) (l0_5 : List Int) (r : Int) (w : World) (hr0_2 : Kd.C k122 w A0_2 l0_2.length l0_2) (hc0_2 : l0_2.length ≤ c0_2) (hr0_5 : Kd.C (Kd.int .i64) w A0_5 l0_5.length l0_5) (hc0_5 : l0_5.length ≤ c0_5) (h : dom_one.f k a0_0 a0_1 l0_2 a0_3 a0_4 l0_5 = some r) :
 Calls Tryd.prog 100 #[.agg #[.int .i64 a0_0, .string a0_1, .slice A0_2 l0_2.length c0_2, .string a0_3, .int .i64 a0_4, .slice A0_5 l0_5.length c0_5]] w fun e w' => e = .returned (.int .i64 r) ∧ Below w.heap.size w w' := by
 have hu43 := Tryd.underlying43
 have HR0_2 := aS hr0_2
 have HC0_2 := aS hc0_2
 clear hr0_2 hc0_2
 have HR0_5 := aS hr0_5
 have HC0_5 := aS hc0_5
 clear hr0_5 hc0_5
 have HB := aS (Below.refl w.heap.size w)
 have H := h; clear h; unfold dom_one.f at H
 have HC2 := aS H
 clear H
 go_enter Tryd.func100, Tryd.ntmps100
 go_upto_block 0 with (first | ((with_reducible refine q0c (N := 1) rfl ?_); (try (refine q0z (by rfl) ?_; dsimp only)); refine box0 rfl (N := 1) rfl (cs := #[.int .i64 a0_0, .string a0_1, .slice A0_2 l0_2.length c0_2, .string a0_3, .int .i64 a0_4, .slice A0_5 l0_5.length c0_5]) (t := 43) (by first | (go_simp; done) | (go_simp; rfl)) (by repeat (first | (with_reducible first | exact HB.out | apply bA | apply bN | apply bD) | exact HB.out)) ?_; clear HB; intro gb168 w3 BK168 GW168 HB; have GE168 := GW168))
 (try simp only [Act.put, s1, s2, s3])
 go_cut [] (fun wc => ∃ (kq : Nat), Aside0 (dom_one.j1 kq a0_0 a0_1 l0_2 a0_3 a0_4 l0_5 = some r) ∧ Aside0 (kq ≤ k) ∧ Aside0 (wc.heap[gb168]? = some (.cells #[.int .i64 a0_0, .string a0_1, (.slice A0_2 l0_2.length c0_2), .string a0_3, .int .i64 a0_4, (.slice A0_5 l0_5.length c0_5)] 43 (0, 0))) ∧ Aside0 (Below w.heap.size w wc))
 case first =>
  have H := HC2.out
  clear HC2
  have HC4 := aS H
  clear H
  go_upto_region 1 with (fail)
  go_cut [4] (fun v4 wc => ∃ (kq : Nat) (x4_3 : Bool), v4 = .bool x4_3 ∧ Aside0 (dom_one.j0 kq x4_3 a0_0 a0_1 l0_2 a0_3 a0_4 l0_5 = some r) ∧ Aside0 (kq ≤ k) ∧ Aside0 (wc.heap[gb168]? = some (.cells #[.int .i64 a0_0, .string a0_1, (.slice A0_2 l0_2.length c0_2), .string a0_3, .int .i64 a0_4, (.slice A0_5 l0_5.length c0_5)] 43 (0, 0))) ∧ Aside0 (Below w.heap.size w wc))
  case first =>
   have H := HC4.out
   clear HC4
   refine iT H ?p5 ?n5 <;> clear H
   case' p5 => intro c5b0 H
   case' n5 => intro c5b0 H; (first | rw [c5b0] | (simp only [q0d, q0e]; rw [c5b0]) | skip); refine iT H ?p7 ?n7 <;> clear H
   case' p7 => intro c7b0 H
   case' n7 => intro c7b0 H
   case p5 =>
    (first | rw [c5b0] | (simp only [q0d, q0e]; rw [c5b0]) | skip)
    have H' := aS H
    clear H
    obtain ⟨hczL_0, hczL_1, hczL_2, hczL_3, hczL_4, hczL_5, hfzL_0, hfzL_1, hfzL_2, hfzL_3, hfzL_4, hfzL_5⟩ := bk6 BK168.out
    go_wp2
    go_meet
    case rel => exact ⟨_, _, (by first | rfl | (simp; done) | simp [*]), H', ⟨by first | omega | exact Nat.le_refl _⟩, ⟨by (with_reducible repeat (first | refine kN ?_ _ | refine kD ?_ | refine kA ?_ _)); exact BK168.out⟩, ⟨by repeat (first | (with_reducible first | exact HB.out | apply bA | apply bN | apply bD | refine bS ?_ GE168.out) | exact HB.out)⟩⟩
   case p7 =>
    have H' := aS H
    clear H
    obtain ⟨hczL_0, hczL_1, hczL_2, hczL_3, hczL_4, hczL_5, hfzL_0, hfzL_1, hfzL_2, hfzL_3, hfzL_4, hfzL_5⟩ := bk6 BK168.out
    go_wp2
    go_meet
    case rel => exact ⟨_, _, (by first | rfl | (simp; done) | simp [*]), H', ⟨by first | omega | exact Nat.le_refl _⟩, ⟨by (with_reducible repeat (first | refine kN ?_ _ | refine kD ?_ | refine kA ?_ _)); exact BK168.out⟩, ⟨by repeat (first | (with_reducible first | exact HB.out | apply bA | apply bN | apply bD | refine bS ?_ GE168.out) | exact HB.out)⟩⟩
   case n7 =>
    replace H := iB H
    obtain ⟨t169, A9, H⟩ := H
    have H' := aS H
    clear H
    obtain ⟨hczL_0, hczL_1, hczL_2, hczL_3, hczL_4, hczL_5, hfzL_0, hfzL_1, hfzL_2, hfzL_3, hfzL_4, hfzL_5⟩ := bk6 BK168.out
    go_wp2_with (first | (go_at_call 135; (with_reducible refine (dom_bare.calls a0_0 a0_1 _ _ l0_2 a0_3 a0_4 _ _ l0_5 t169 _ ?side1 ?side2 ?side3 ?side4 A9.out).mono ?_); (case side1 => repeat (first | exact (Kd.C_below HR0_2.out HB.out) | (with_reducible refine cA ?_ _) | (with_reducible refine cN ?_ _) | (with_reducible refine cD ?_))); (case side2 => exact HC0_2.out); (case side3 => repeat (first | exact (Kd.C_below HR0_5.out HB.out) | (with_reducible refine cA ?_ _) | (with_reducible refine cN ?_ _) | (with_reducible refine cD ?_))); (case side4 => exact HC0_5.out); rintro e w11 ⟨rfl, hb⟩; replace BK168 := aS (q08 (g := gb168) (o := .cells #[.int .i64 a0_0, .string a0_1, .slice A0_2 l0_2.length c0_2, .string a0_3, .int .i64 a0_4, .slice A0_5 l0_5.length c0_5] 43 (0, 0)) (by (with_reducible repeat (first | refine kN ?_ _ | refine kD ?_ | refine kA ?_ _)); exact BK168.out) hb); replace HB := aS (q03 (by repeat (first | (with_reducible first | exact HB.out | apply bA | apply bN | apply bD | refine bS ?_ GE168.out) | exact HB.out)) hb); (try clear hb); (try clear hb2); (try clear hk); (try clear hi)))
    go_meet
    case rel => exact ⟨_, (!t169), (by first | rfl | (simp; done) | simp [*]), H', ⟨by first | omega | exact Nat.le_refl _⟩, ⟨by (with_reducible repeat (first | refine kN ?_ _ | refine kD ?_ | refine kA ?_ _)); exact BK168.out⟩, ⟨by repeat (first | (with_reducible first | exact HB.out | apply bA | apply bN | apply bD | refine bS ?_ GE168.out) | exact HB.out)⟩⟩
  case rest =>
   clear HC4
   obtain ⟨kq, x4_3, rfl, HA, HJ3, BK168, HB⟩ := hcut
   cases kq with
   | zero => exact absurd HA.out (by simp [dom_one.j0])
   | succ kj3 =>
    have H := HA.out
    clear HA
    simp only [dom_one.j0] at H
    refine iV H ?p12 ?n12 <;> clear H
    case' p12 => intro c12 H; subst c12
    case' n12 =>
     intro c12 H; subst c12
     obtain ⟨hczL_0, hczL_1, hczL_2, hczL_3, hczL_4, hczL_5, hfzL_0, hfzL_1, hfzL_2, hfzL_3, hfzL_4, hfzL_5⟩ := bk6 BK168.out
     refine iE H ?p13 ?n13 <;> clear H
    case' p13 => intro c13b0 c13b1 H; replace H := iB H; obtain ⟨t170, A14, H⟩ := H; refine iV H ?p15 ?n15 <;> clear H
    case' p15 => intro c15 H; subst c15
    case' n15 => intro c15 H; subst c15
    case' n13 => intro c13 c13b0 c13b1 H
    case p12 =>
     obtain rfl := Option.some.inj H
     go_wp2
     go_ret
     exact ⟨by first | rfl | (simp [q02, q01] <;> rfl) | (simp [*, q02, q01] <;> rfl), by repeat (first | (with_reducible first | exact HB.out | apply bA | apply bN | apply bD | refine bS ?_ GE168.out) | exact HB.out)⟩
    case p15 =>
     have H' := aS H
     clear H
     go_wp2_with (first | (go_at_call 136; (with_reducible refine (dom_Name.calls a0_1 true _ A14.out).mono ?_); rintro e w17 ⟨rfl, hb⟩; replace BK168 := aS (q08 (g := gb168) (o := .cells #[.int .i64 a0_0, .string a0_1, .slice A0_2 l0_2.length c0_2, .string a0_3, .int .i64 a0_4, .slice A0_5 l0_5.length c0_5] 43 (0, 0)) (by (with_reducible repeat (first | refine kN ?_ _ | refine kD ?_ | refine kA ?_ _)); exact BK168.out) hb); replace HB := aS (q03 (by repeat (first | (with_reducible first | exact HB.out | apply bA | apply bN | apply bD | refine bS ?_ GE168.out) | exact HB.out)) hb); (try clear hb); (try clear hb2); (try clear hk); (try clear hi)))
     go_meet
     case rel => exact ⟨_, H', ⟨by have := HJ3.out; first | omega | exact Nat.le_refl _⟩, ⟨by (with_reducible repeat (first | refine kN ?_ _ | refine kD ?_ | refine kA ?_ _)); exact BK168.out⟩, ⟨by repeat (first | (with_reducible first | exact HB.out | apply bA | apply bN | apply bD | refine bS ?_ GE168.out) | exact HB.out)⟩⟩
    case n15 =>
     obtain rfl := Option.some.inj H
     go_wp2_with (first | (go_at_call 136; (with_reducible refine (dom_Name.calls a0_1 false _ A14.out).mono ?_); rintro e w19 ⟨rfl, hb⟩; replace BK168 := aS (q08 (g := gb168) (o := .cells #[.int .i64 a0_0, .string a0_1, .slice A0_2 l0_2.length c0_2, .string a0_3, .int .i64 a0_4, .slice A0_5 l0_5.length c0_5] 43 (0, 0)) (by (with_reducible repeat (first | refine kN ?_ _ | refine kD ?_ | refine kA ?_ _)); exact BK168.out) hb); replace HB := aS (q03 (by repeat (first | (with_reducible first | exact HB.out | apply bA | apply bN | apply bD | refine bS ?_ GE168.out) | exact HB.out)) hb); (try clear hb); (try clear hb2); (try clear hk); (try clear hi)))
     go_ret
     exact ⟨by first | rfl | (simp [q02, q01] <;> rfl) | (simp [*, q02, q01] <;> rfl), by repeat (first | (with_reducible first | exact HB.out | apply bA | apply bN | apply bD | refine bS ?_ GE168.out) | exact HB.out)⟩
    case n13 =>
     have H' := aS H
     clear H
     go_wp2
     go_meet
     case rel => exact ⟨_, H', ⟨by have := HJ3.out; first | omega | exact Nat.le_refl _⟩, ⟨by (with_reducible repeat (first | refine kN ?_ _ | refine kD ?_ | refine kA ?_ _)); exact BK168.out⟩, ⟨by repeat (first | (with_reducible first | exact HB.out | apply bA | apply bN | apply bD | refine bS ?_ GE168.out) | exact HB.out)⟩⟩
 case rest =>
  clear HC2
  obtain ⟨kq, HA, HJ1, BK168, HB⟩ := hcut
  cases kq with
  | zero => exact absurd HA.out (by simp [dom_one.j1])
  | succ kj1 =>
   have H := HA.out
   clear HA
   simp only [dom_one.j1] at H
   replace H := iB H
   obtain ⟨t171, A21, H⟩ := H
   obtain ⟨hczL_0, hczL_1, hczL_2, hczL_3, hczL_4, hczL_5, hfzL_0, hfzL_1, hfzL_2, hfzL_3, hfzL_4, hfzL_5⟩ := bk6 BK168.out
   refine iE H ?p22 ?n22 <;> clear H
   case' p22 => intro c22b0 c22b1 H; refine iTN (m := 400) (n := a0_3.size) H rfl rfl ?p23 ?n23 <;> clear H
   case' p23 => intro c23b0 c23b1 H
   case' n23 => intro c23b0 c23b1 H; refine iTN (m := 400) (n := a0_1.size) H rfl rfl ?p27 ?n27 <;> clear H
   case' p27 => intro c27b0 c27b1 H
   case' n27 => intro c27b0 c27b1 H
   case' n22 => intro c22 c22b0 c22b1 H
   case p23 =>
    obtain rfl := Option.some.inj H
    go_wp2_with (first | ((with_reducible refine q06 (f := 137) rfl ?_); refine q0k (some 30) rfl rfl Tryd.func137 (by kernel_rfl) rfl #[.slice A0_2 l0_2.length c0_2] rfl (by (try simp only [List.map_toArray, List.map_cons, List.map_nil]); first | done | rfl | (simp only [List.length_drop, List.length_take]; rfl)) ?_; (with_reducible refine (dom_attrs.calls kj1 _ _ l0_2 t171 _ ?side1 ?side2 A21.out).mono ?_); (case side1 => repeat (first | exact (Kd.C_below HR0_2.out HB.out) | (with_reducible refine cA ?_ _) | (with_reducible refine cN ?_ _) | (with_reducible refine cD ?_))); (case side2 => exact HC0_2.out); rintro e w25 ⟨rfl, hb⟩; refine ⟨_, rfl, ?_⟩; replace BK168 := aS (q08 (g := gb168) (o := .cells #[.int .i64 a0_0, .string a0_1, .slice A0_2 l0_2.length c0_2, .string a0_3, .int .i64 a0_4, .slice A0_5 l0_5.length c0_5] 43 (0, 0)) (by (with_reducible repeat (first | refine kN ?_ _ | refine kD ?_ | refine kA ?_ _)); exact BK168.out) hb); replace HB := aS (q03 (by repeat (first | (with_reducible first | exact HB.out | apply bA | apply bN | apply bD | refine bS ?_ GE168.out) | exact HB.out)) hb); (try clear hb); (try clear hb2); (try clear hk); (try clear hi); obtain ⟨hczL_0, hczL_1, hczL_2, hczL_3, hczL_4, hczL_5, hfzL_0, hfzL_1, hfzL_2, hfzL_3, hfzL_4, hfzL_5⟩ := bk6 BK168.out))
    go_ret
    exact ⟨by first | rfl | (simp [q02, q01] <;> rfl) | (simp [*, q02, q01] <;> rfl), by repeat (first | (with_reducible first | exact HB.out | apply bA | apply bN | apply bD | refine bS ?_ GE168.out) | exact HB.out)⟩
   case p27 =>
    obtain rfl := Option.some.inj H
    go_wp2_with (first | ((with_reducible refine q06 (f := 137) rfl ?_); refine q0k (some 30) rfl rfl Tryd.func137 (by kernel_rfl) rfl #[.slice A0_2 l0_2.length c0_2] rfl (by (try simp only [List.map_toArray, List.map_cons, List.map_nil]); first | done | rfl | (simp only [List.length_drop, List.length_take]; rfl)) ?_; (with_reducible refine (dom_attrs.calls kj1 _ _ l0_2 t171 _ ?side1 ?side2 A21.out).mono ?_); (case side1 => repeat (first | exact (Kd.C_below HR0_2.out HB.out) | (with_reducible refine cA ?_ _) | (with_reducible refine cN ?_ _) | (with_reducible refine cD ?_))); (case side2 => exact HC0_2.out); rintro e w29 ⟨rfl, hb⟩; refine ⟨_, rfl, ?_⟩; replace BK168 := aS (q08 (g := gb168) (o := .cells #[.int .i64 a0_0, .string a0_1, .slice A0_2 l0_2.length c0_2, .string a0_3, .int .i64 a0_4, .slice A0_5 l0_5.length c0_5] 43 (0, 0)) (by (with_reducible repeat (first | refine kN ?_ _ | refine kD ?_ | refine kA ?_ _)); exact BK168.out) hb); replace HB := aS (q03 (by repeat (first | (with_reducible first | exact HB.out | apply bA | apply bN | apply bD | refine bS ?_ GE168.out) | exact HB.out)) hb); (try clear hb); (try clear hb2); (try clear hk); (try clear hi); obtain ⟨hczL_0, hczL_1, hczL_2, hczL_3, hczL_4, hczL_5, hfzL_0, hfzL_1, hfzL_2, hfzL_3, hfzL_4, hfzL_5⟩ := bk6 BK168.out))
    go_ret
    exact ⟨by first | rfl | (simp [q02, q01] <;> rfl) | (simp [*, q02, q01] <;> rfl), by repeat (first | (with_reducible first | exact HB.out | apply bA | apply bN | apply bD | refine bS ?_ GE168.out) | exact HB.out)⟩
   case n27 =>
    obtain rfl := Option.some.inj H
    go_wp2_with (first | ((with_reducible refine q06 (f := 137) rfl ?_); refine q0k (some 30) rfl rfl Tryd.func137 (by kernel_rfl) rfl #[.slice A0_2 l0_2.length c0_2] rfl (by (try simp only [List.map_toArray, List.map_cons, List.map_nil]); first | done | rfl | (simp only [List.length_drop, List.length_take]; rfl)) ?_; (with_reducible refine (dom_attrs.calls kj1 _ _ l0_2 t171 _ ?side1 ?side2 A21.out).mono ?_); (case side1 => repeat (first | exact (Kd.C_below HR0_2.out HB.out) | (with_reducible refine cA ?_ _) | (with_reducible refine cN ?_ _) | (with_reducible refine cD ?_))); (case side2 => exact HC0_2.out); rintro e w32 ⟨rfl, hb⟩; refine ⟨_, rfl, ?_⟩; replace BK168 := aS (q08 (g := gb168) (o := .cells #[.int .i64 a0_0, .string a0_1, .slice A0_2 l0_2.length c0_2, .string a0_3, .int .i64 a0_4, .slice A0_5 l0_5.length c0_5] 43 (0, 0)) (by (with_reducible repeat (first | refine kN ?_ _ | refine kD ?_ | refine kA ?_ _)); exact BK168.out) hb); replace HB := aS (q03 (by repeat (first | (with_reducible first | exact HB.out | apply bA | apply bN | apply bD | refine bS ?_ GE168.out) | exact HB.out)) hb); (try clear hb); (try clear hb2); (try clear hk); (try clear hi); obtain ⟨hczL_0, hczL_1, hczL_2, hczL_3, hczL_4, hczL_5, hfzL_0, hfzL_1, hfzL_2, hfzL_3, hfzL_4, hfzL_5⟩ := bk6 BK168.out))
    go_ret
    exact ⟨by first | rfl | (simp [q02, q01] <;> rfl) | (simp [*, q02, q01] <;> rfl), by repeat (first | (with_reducible first | exact HB.out | apply bA | apply bN | apply bD | refine bS ?_ GE168.out) | exact HB.out)⟩
   case n22 =>
    obtain rfl := Option.some.inj H
    go_wp2_with (first | ((with_reducible refine q06 (f := 137) rfl ?_); refine q0k (some 30) rfl rfl Tryd.func137 (by kernel_rfl) rfl #[.slice A0_2 l0_2.length c0_2] rfl (by (try simp only [List.map_toArray, List.map_cons, List.map_nil]); first | done | rfl | (simp only [List.length_drop, List.length_take]; rfl)) ?_; (with_reducible refine (dom_attrs.calls kj1 _ _ l0_2 t171 _ ?side1 ?side2 A21.out).mono ?_); (case side1 => repeat (first | exact (Kd.C_below HR0_2.out HB.out) | (with_reducible refine cA ?_ _) | (with_reducible refine cN ?_ _) | (with_reducible refine cD ?_))); (case side2 => exact HC0_2.out); rintro e w35 ⟨rfl, hb⟩; refine ⟨_, rfl, ?_⟩; replace BK168 := aS (q08 (g := gb168) (o := .cells #[.int .i64 a0_0, .string a0_1, .slice A0_2 l0_2.length c0_2, .string a0_3, .int .i64 a0_4, .slice A0_5 l0_5.length c0_5] 43 (0, 0)) (by (with_reducible repeat (first | refine kN ?_ _ | refine kD ?_ | refine kA ?_ _)); exact BK168.out) hb); replace HB := aS (q03 (by repeat (first | (with_reducible first | exact HB.out | apply bA | apply bN | apply bD | refine bS ?_ GE168.out) | exact HB.out)) hb); (try clear hb); (try clear hb2); (try clear hk); (try clear hi)))
    go_ret
    exact ⟨by first | rfl | (simp [q02, q01] <;> rfl) | (simp [*, q02, q01] <;> rfl), by repeat (first | (with_reducible first | exact HB.out | apply bA | apply bN | apply bD | refine bS ?_ GE168.out) | exact HB.out)⟩
end Go.Proofs.YthjnallbbhnndaaDoor.XWp
namespace Go.Proofs.YthjnallbbhnndaaDoor.XWp
open Go.Proofs.YthjnallbbhnndaaDoor.Short Go.RowKit Go.Proofs.YthjnallbbhnndaaDoorW.PrintWords Go.Proofs.YthjnallbbhnndaaDoorW.PrintLast Go.Proofs.YthjnallbbhnndaaDoorW.PrintMore
attribute [local go_sem] q15 q13 q1i q1h q0x q0w q14 q12   -- for this text's walks alone
set_option linter.unusedVariables false
set_option linter.unusedSimpArgs false
mutual
def dom_kids.l0 : Nat → List Bool → List (S43) → Int → Int → List (S43) → Bool → Option (Int)
 | 0, _, _, _, _, _, _ => none
 | k + 1, x3, x15, x16, x17, x173000, x173001 => if x17 < x16 then (if 0 ≤ x17 then (if x17 < (x15.length : Int) then (dom_kids.l1 k x3 x17 x15 x16 x17 ((q00 x15 x17).f5) (((q00 x15 x17).f5).length : Int) 0 x173000 x173001) else (none)) else (none)) else (dom_kids.l2 k x3 x173000 (x173000.length : Int) 0 x173000 x173001)
def dom_kids.l1 : Nat → List Bool → Int → List (S43) → Int → Int → List Int → Int → Int → List (S43) → Bool → Option (Int)
 | 0, _, _, _, _, _, _, _, _, _, _ => none
 | k + 1, x3, x4, x15, x16, x17, x23, x24, x25, x173000, x173001 => if x25 < x24 then (if 0 ≤ x25 then (if x25 < (x23.length : Int) then (if (rd x23 x25) < 0 then (dom_kids.j2 k x3 x4 (rd x23 x25) x15 x16 x17 x23 x24 x25 true x173000 x173001) else (if (rd x23 x25) ≥ (x3.length : Int) then (dom_kids.j2 k x3 x4 (rd x23 x25) x15 x16 x17 x23 x24 x25 true x173000 x173001) else (if 0 ≤ (rd x23 x25) then (if (rd x23 x25) < (x173000.length : Int) then (if ((q00 x173000 (rd x23 x25)).f4) = x4 then (if (rd x23 x25) < (x3.length : Int) then (dom_kids.j2 k x3 x4 (rd x23 x25) x15 x16 x17 x23 x24 x25 (rdOf false x3 (rd x23 x25)) x173000 x173001) else (none)) else (dom_kids.j2 k x3 x4 (rd x23 x25) x15 x16 x17 x23 x24 x25 true x173000 x173001)) else (none)) else (none)))) else (none)) else (none)) else (dom_kids.l0 k x3 x15 x16 (wrap64 (x17 + 1)) x173000 x173001)
def dom_kids.j2 : Nat → List Bool → Int → Int → List (S43) → Int → Int → List Int → Int → Int → Bool → List (S43) → Bool → Option (Int)
 | 0, _, _, _, _, _, _, _, _, _, _, _, _ => none
 | k + 1, x3, x4, x7, x15, x16, x17, x23, x24, x25, x29, x173000, x173001 => if x29 = true then (some 3) else (if x4 = 0 then (if 0 ≤ x7 then (if x7 < (x173000.length : Int) then (if ((q00 x173000 x7).f0) = 3 then (some 7) else (if x7 < (x3.length : Int) then (dom_kids.l1 k (x3.set (x7 : Int).toNat true) x4 x15 x16 x17 x23 x24 (wrap64 (x25 + 1)) x173000 x173001) else (none))) else (none)) else (none)) else (if 0 ≤ x7 then (if x7 < (x3.length : Int) then (dom_kids.l1 k (x3.set (x7 : Int).toNat true) x4 x15 x16 x17 x23 x24 (wrap64 (x25 + 1)) x173000 x173001) else (none)) else (none)))
def dom_kids.l2 : Nat → List Bool → List (S43) → Int → Int → List (S43) → Bool → Option (Int)
 | 0, _, _, _, _, _, _ => none
 | k + 1, x3, x72, x73, x74, x173000, x173001 => if x74 < x73 then (if 0 ≤ x74 then (if x74 < (x72.length : Int) then (if ((q00 x72 x74).f4) = (-1) then (dom_kids.l2 k x3 x72 x73 (wrap64 (x74 + 1)) x173000 x173001) else (if x74 < (x3.length : Int) then (if rdOf false x3 x74 = true then (dom_kids.l2 k x3 x72 x73 (wrap64 (x74 + 1)) x173000 x173001) else (some 3)) else (none))) else (none)) else (none)) else (if 0 < (x173000.length : Int) then (if ((q00 x173000 0).f4) = (-1) then (some 0) else (some 3)) else (none))
end
def dom_kids.f (k : Nat) (l0_0 : List (S43)) (a0_1 : Bool) : Option (Int) := if 0 ≤ (l0_0.length : Int) then (if ((l0_0.length : Int) : Int).toNat ≤ 281474976710656 then (dom_kids.l0 k (List.replicate ((l0_0.length : Int) : Int).toNat false) l0_0 (l0_0.length : Int) 0 l0_0 a0_1) else (none)) else (none)
theorem dom_kids.mono_l : ∀ k, (∀ y0 y1 y2 y3 y4 y5, LeO (dom_kids.l0 k y0 y1 y2 y3 y4 y5) (dom_kids.l0 (k + 1) y0 y1 y2 y3 y4 y5)) ∧ (∀ y0 y1 y2 y3 y4 y5 y6 y7 y8 y9, LeO (dom_kids.l1 k y0 y1 y2 y3 y4 y5 y6 y7 y8 y9) (dom_kids.l1 (k + 1) y0 y1 y2 y3 y4 y5 y6 y7 y8 y9)) ∧ (∀ y0 y1 y2 y3 y4 y5 y6 y7 y8 y9 y10 y11, LeO (dom_kids.j2 k y0 y1 y2 y3 y4 y5 y6 y7 y8 y9 y10 y11) (dom_kids.j2 (k + 1) y0 y1 y2 y3 y4 y5 y6 y7 y8 y9 y10 y11)) ∧ (∀ y0 y1 y2 y3 y4 y5, LeO (dom_kids.l2 k y0 y1 y2 y3 y4 y5) (dom_kids.l2 (k + 1) y0 y1 y2 y3 y4 y5))
 | 0 => ⟨fun _ _ _ _ _ _ r h => by simp [dom_kids.l0] at h, fun _ _ _ _ _ _ _ _ _ _ r h => by simp [dom_kids.l1] at h, fun _ _ _ _ _ _ _ _ _ _ _ _ r h => by simp [dom_kids.j2] at h, fun _ _ _ _ _ _ r h => by simp [dom_kids.l2] at h⟩
 | k + 1 => by
  obtain ⟨ih0, ih1, ih2, ih3⟩ := dom_kids.mono_l k
  refine ⟨?_, ?_, ?_, ?_⟩
  all_goals intros
  all_goals (first | unfold dom_kids.l0 | unfold dom_kids.l1 | unfold dom_kids.j2 | unfold dom_kids.l2)
  all_goals (repeat' first | with_reducible first | apply ih0 | apply ih1 | apply ih2 | apply ih3 | exact LeO.refl _ | exact LeO.none _ | refine LeO.ite ?_ ?_ | refine LeO.bind ?_ (fun _ => ?_) | (first | apply ih0 | apply ih1 | apply ih2 | apply ih3 | exact LeO.none _ | refine LeO.ite ?_ ?_ | refine LeO.bind ?_ (fun _ => ?_)))
theorem dom_kids.mono : ∀ a0 a1 k, LeO (dom_kids.f k a0 a1) (dom_kids.f (k + 1) a0 a1) := by
 intro a0 a1 k
 obtain ⟨ih0, ih1, ih2, ih3⟩ := dom_kids.mono_l k
 unfold dom_kids.f
 repeat' first | with_reducible first | apply ih0 | apply ih1 | apply ih2 | apply ih3 | exact LeO.refl _ | exact LeO.none _ | refine LeO.ite ?_ ?_ | refine LeO.bind ?_ (fun _ => ?_) | (first | apply ih0 | apply ih1 | apply ih2 | apply ih3 | exact LeO.none _ | refine LeO.ite ?_ ?_ | refine LeO.bind ?_ (fun _ => ?_))
set_option maxHeartbeats 8000000 in
set_option maxRecDepth 100000 in
theorem dom_kids.calls (k : Nat) (A0_0 : Option Addr) (c0_0 : Nat) (l0_0 : List (S43)) (a0_1 : Bool) (r : Int) (w : World) (hr0_0 : Kd.C k43 w A0_0 l0_0.length l0_0) (hc0_0 : l0_0.length ≤ c0_0) (h : dom_kids.f k l0_0 a0_1 = some r) :
 Calls Tryd.prog 101 #[.agg #[.slice A0_0 l0_0.length c0_0, .bool a0_1]] w fun e w' => e = .returned (.int .i64 r) ∧ Below w.heap.size w w' := by
 have hu24 := Tryd.underlying24
 have hu43 := Tryd.underlying43
 have HR0_0 := aS hr0_0
 have HC0_0 := aS hc0_0
 clear hr0_0 hc0_0
 have HB := aS (Below.refl w.heap.size w)
 have H := h; clear h; unfold dom_kids.f at H
 refine iGp H ?_; clear H; intro c2 H
 have c2b0 := eq_true c2
 have c2b1 : decide (0 ≤ (l0_0.length : Int)) = true := decide_eq_true c2
 clear c2
 refine iGp H ?_; clear H; intro c3 H
 have c3b0 := eq_true c3
 have c3b1 : decide (((l0_0.length : Int) : Int).toNat ≤ 281474976710656) = true := decide_eq_true c3
 clear c3
 obtain ⟨y173, hy173⟩ : ∃ y_ : List Bool, y_ = (List.replicate ((l0_0.length : Int) : Int).toNat false) := ⟨_, rfl⟩
 replace H : (dom_kids.l0 k y173 l0_0 (l0_0.length : Int) 0 l0_0 a0_1) = some r := by first | (rw [hy173]; with_reducible exact H) | (have H2_ := (Option.bind_some _ _).symm.trans H; rw [hy173]; with_reducible exact H2_) | (have H2_ := (Option.bind_some _ _).symm.trans H; with_reducible exact H2_) | with_reducible exact H | (rw [hy173]; exact H) | exact H
 have Ny173 := aS hy173
 clear hy173
 have H' := aS H
 clear H
 go_enter Tryd.func101, Tryd.ntmps101
 go_wp2_with (first | ((with_reducible refine q0c (N := 1) rfl ?_); (try (refine q0z (by rfl) ?_; dsimp only)); refine box0 rfl (N := 1) rfl (cs := #[.slice A0_0 l0_0.length c0_0, .bool a0_1]) (t := 24) (by first | (go_simp; done) | (go_simp; rfl)) (by repeat (first | (with_reducible first | exact HB.out | apply bA | apply bN | apply bD) | exact HB.out)) ?_; clear HB; intro gb172 w4 BK172 GW172 HB; have GE172 := GW172; obtain ⟨hczL_0, hczL_1, hfzL_0, hfzL_1⟩ := bk2 BK172.out) | ((with_reducible refine q0c (N := 13) rfl ?_); (try (refine q0z (by rfl) ?_; dsimp only)); refine Kd.R_make Kd.bool _ 4 rfl (N := 13) rfl 186 _ _ rfl (l0_0.length : Int) rfl rfl Tryd.underlying186 (.bool false) 1 info4 rfl (by decide) (by omega) false (ok := fun _ => True) (okp := fun _ => True) rfl (fun _ hk => hk) trivial (od (by first | (with_reducible assumption) | assumption)) (Nat.le_trans (Nat.mul_le_mul_right _ (od (by first | (with_reducible assumption) | assumption) : (l0_0.length : Int).toNat ≤ 281474976710656)) (by omega)) (Below.refl _ _) (Nat.le_refl _) ?_; intro v174 w6 ho7 hb hg_ hnew_; clear hg_ hnew_; (first | rw [← Ny173.out] at ho7 | (simp only [Int.reduceToNat] at ho7; rw [← Ny173.out] at ho7)); have HO175 := aS (Kd.R_lower ho7 (q0g (by repeat (first | (with_reducible first | exact HB.out | apply bA | apply bN | apply bD | refine bS ?_ GE172.out) | exact HB.out)))); replace BK172 := aS (q08 (g := gb172) (o := .cells #[.slice A0_0 l0_0.length c0_0, .bool a0_1] 24 (0, 0)) (by (with_reducible repeat (first | refine kN ?_ _ | refine kD ?_ | refine kA ?_ _)); exact BK172.out) hb); replace HB := aS (q03 (by repeat (first | (with_reducible first | exact HB.out | apply bA | apply bN | apply bD | refine bS ?_ GE172.out) | exact HB.out)) hb); clear hb ho7; obtain ⟨hczL_0, hczL_1, hfzL_0, hfzL_1⟩ := bk2 BK172.out))
 go_loopg [17] k (fun kq v17 w' => ∃ (x3_1 : List Bool) (x17_1 : Int), v17 = .int .i64 x17_1 ∧ Aside0 (dom_kids.l0 kq x3_1 l0_0 (l0_0.length : Int) x17_1 l0_0 a0_1 = some r) ∧ Aside0 (kq ≤ k) ∧ Aside0 (Kd.R Kd.bool 4 w' w.heap.size (fun _ => True) v174 x3_1) ∧ Aside0 (w'.heap[gb172]? = some (.cells #[(.slice A0_0 l0_0.length c0_0), .bool a0_1] 24 (0, 0))) ∧ Aside0 (Below w.heap.size w w'))
 case atStart => exact ⟨(y173), (0), (by first | rfl | (simp; done) | simp [*]), H', ⟨Nat.le_refl _⟩, ⟨by (with_reducible repeat (first | apply rA | apply rN | apply rD)); exact HO175.out⟩, ⟨by (with_reducible repeat (first | refine kN ?_ _ | refine kD ?_ | refine kA ?_ _)); exact BK172.out⟩, ⟨by repeat (first | (with_reducible first | exact HB.out | apply bA | apply bN | apply bD | refine bS ?_ GE172.out) | exact HB.out)⟩⟩
 case round =>
  clear H'
  obtain ⟨x3_1, x17_1, rfl, HA, HK1, HO_3, BK172, HB⟩ := hrel
  cases gk with
  | zero => exact absurd HA.out (by simp [dom_kids.l0])
  | succ k1 =>
   have H := HA.out
   clear HA
   simp only [dom_kids.l0] at H
   refine iT H ?p9 ?n9 <;> clear H
   case' p9 => intro c9b0 H; refine iLp H ?_; clear H; intro c10b0 H; refine iTp H ?_; clear H; intro c11b0 H
   case' n9 => intro c9b0 H
   case p9 =>
    have H' := aS H
    clear H
    obtain ⟨ad176, A176_2, c176_2, A176_5, c176_5, e176, hx176_0, hx176_1, hx176_2, hx176_3, hx176_4, hx176_5, HC176_2, HR176_2, HC176_5, HR176_5, p176, q176⟩ := q0p HB.out HR0_0.out x17_1 (by first | with_reducible assumption | assumption) (by first | with_reducible assumption | assumption)
    cases e176
    go_wp2_with (first | ((with_reducible refine q0c (N := 5) rfl ?_); (try (refine q0z (by rfl) ?_; dsimp only)); refine q0q ?hg (N := 5) ?hd (cs := #[.int .i64 0, .string (⟨#[]⟩ : ByteArray), .slice none 0 0, .string (⟨#[]⟩ : ByteArray), .int .i64 0, .slice none 0 0]) (t := 43) ?hr ?_; (case hd => rfl); (case hg => rfl); (case hr => first | (go_simp; done) | (go_simp; rfl)); intro gb177 hg w12 hbox hb; have n0_ := aS (Kd.R_below (by (with_reducible repeat (first | apply rA | apply rN | apply rD)); exact HO_3.out) hb); have n1_ := aS (q08 (g := gb172) (o := .cells #[.slice (some ad176) l0_0.length c0_0, .bool a0_1] 24 (0, 0)) (by (with_reducible repeat (first | refine kN ?_ _ | refine kD ?_ | refine kA ?_ _)); exact BK172.out) hb); have n2_ := aS (q03 (by repeat (first | (with_reducible first | exact HB.out | apply bA | apply bN | apply bD | refine bS ?_ GE172.out) | exact HB.out)) hb); have n3_ := aS (hbox); have n4_ := aS ((by rw [hg]; exact (q0g (by repeat (first | (with_reducible first | exact HB.out | apply bA | apply bN | apply bD | refine bS ?_ GE172.out) | exact HB.out))) : w.heap.size ≤ gb177)); have n5_ := aS ((by rw [hg]; exact (q0g (by repeat (first | (with_reducible first | exact HB.out | apply bA | apply bN | apply bD | refine bS ?_ GE172.out) | exact HB.out))) : w.heap.size ≤ gb177)); have n6_ := aS ((by rw [hg]; exact Nat.ne_of_lt (q1j (g := gb172) (o := .cells #[.slice (some ad176) l0_0.length c0_0, .bool a0_1] 24 (0, 0)) (by (with_reducible repeat (first | refine kN ?_ _ | refine kD ?_ | refine kA ?_ _)); exact BK172.out)) : gb172 ≠ gb177)); have n7_ := aS ((by rw [hg]; exact Nat.ne_of_gt (q1j (g := gb172) (o := .cells #[.slice (some ad176) l0_0.length c0_0, .bool a0_1] 24 (0, 0)) (by (with_reducible repeat (first | refine kN ?_ _ | refine kD ?_ | refine kA ?_ _)); exact BK172.out)) : gb177 ≠ gb172)); clear HO_3; clear BK172; clear HB; have HO_3 := n0_; have BK172 := n1_; have HB := n2_; have BK177 := n3_; have GW177 := n4_; have GE177 := n5_; have NB172_177 := n6_; have NB177_172 := n7_; clear n0_ n1_ n2_ n3_ n4_ n5_ n6_ n7_; clear hb hbox hg; have hnb13 := NB177_172.out; have hnc13 := NB172_177.out; obtain ⟨hczL_0, hczL_1, hczL_2, hczL_3, hczL_4, hczL_5, hfzL_0, hfzL_1, hfzL_2, hfzL_3, hfzL_4, hfzL_5⟩ := bk6 BK177.out))
    go_loopg [25] k1 (fun kq v25 w' => ∃ (x3_2 : List Bool) (x25_2 : Int), v25 = .int .i64 x25_2 ∧ Aside0 (dom_kids.l1 kq x3_2 x17_1 l0_0 (l0_0.length : Int) x17_1 ((q00 l0_0 x17_1).f5) (((q00 l0_0 x17_1).f5).length : Int) x25_2 l0_0 a0_1 = some r) ∧ Aside0 (kq ≤ k1) ∧ Aside0 (Kd.R Kd.bool 4 w' w.heap.size (fun _ => True) v174 x3_2) ∧ Aside0 (w'.heap[gb172]? = some (.cells #[(.slice (some ad176) l0_0.length c0_0), .bool a0_1] 24 (0, 0))) ∧ Aside0 (w'.heap[gb177]? = some (.cells #[.int .i64 ((q00 l0_0 x17_1).f0), .string ((q00 l0_0 x17_1).f1), (.slice A176_2 ((q00 l0_0 x17_1).f2).length c176_2), .string ((q00 l0_0 x17_1).f3), .int .i64 ((q00 l0_0 x17_1).f4), (.slice A176_5 ((q00 l0_0 x17_1).f5).length c176_5)] 43 (0, 0))) ∧ Aside0 (Below w.heap.size w w'))
    case atStart => exact ⟨(x3_1), (0), (by first | rfl | (simp; done) | simp [*]), H', ⟨Nat.le_refl _⟩, ⟨by (with_reducible repeat (first | apply rA | apply rN | apply rD)); exact Kd.R_mono (Kd.R_far (p := ⟨gb177, 5, none⟩) (Kd.R_far (p := ⟨gb177, 4, none⟩) (Kd.R_far (p := ⟨gb177, 3, none⟩) (Kd.R_far (p := ⟨gb177, 2, none⟩) (Kd.R_far (p := ⟨gb177, 1, none⟩) (Kd.R_far (p := ⟨gb177, 0, none⟩) (Kd.R_types HO_3.out BK177.out (by decide)) (fun _ hk => hk.2) (.int .i64 ((q00 l0_0 x17_1).f0))) (fun _ hk => hk.2) (.string ((q00 l0_0 x17_1).f1))) (fun _ hk => hk.2) (.slice A176_2 ((q00 l0_0 x17_1).f2).length c176_2)) (fun _ hk => hk.2) (.string ((q00 l0_0 x17_1).f3))) (fun _ hk => hk.2) (.int .i64 ((q00 l0_0 x17_1).f4))) (fun _ hk => hk.2) (.slice A176_5 ((q00 l0_0 x17_1).f5).length c176_5)) (fun _ hk => trivial)⟩, ⟨by (with_reducible repeat (first | refine kN ?_ _ | refine kD ?_ | refine kA ?_ _)); refine q0u ?_ NB172_177.out _; (with_reducible repeat (first | refine kN ?_ _ | refine kD ?_ | refine kA ?_ _)); refine q0u ?_ NB172_177.out _; (with_reducible repeat (first | refine kN ?_ _ | refine kD ?_ | refine kA ?_ _)); refine q0u ?_ NB172_177.out _; (with_reducible repeat (first | refine kN ?_ _ | refine kD ?_ | refine kA ?_ _)); refine q0u ?_ NB172_177.out _; (with_reducible repeat (first | refine kN ?_ _ | refine kD ?_ | refine kA ?_ _)); refine q0u ?_ NB172_177.out _; (with_reducible repeat (first | refine kN ?_ _ | refine kD ?_ | refine kA ?_ _)); refine q0u ?_ NB172_177.out _; (with_reducible repeat (first | refine kN ?_ _ | refine kD ?_ | refine kA ?_ _)); exact BK172.out⟩, ⟨by (with_reducible repeat (first | refine kN ?_ _ | refine kD ?_ | refine kA ?_ _)); refine q0t (cs := #[.int .i64 ((q00 l0_0 x17_1).f0), .string ((q00 l0_0 x17_1).f1), .slice A176_2 ((q00 l0_0 x17_1).f2).length c176_2, .string ((q00 l0_0 x17_1).f3), .int .i64 ((q00 l0_0 x17_1).f4), .slice none 0 0]) ?_ 5 _ rfl; (with_reducible repeat (first | refine kN ?_ _ | refine kD ?_ | refine kA ?_ _)); refine q0t (cs := #[.int .i64 ((q00 l0_0 x17_1).f0), .string ((q00 l0_0 x17_1).f1), .slice A176_2 ((q00 l0_0 x17_1).f2).length c176_2, .string ((q00 l0_0 x17_1).f3), .int .i64 0, .slice none 0 0]) ?_ 4 _ rfl; (with_reducible repeat (first | refine kN ?_ _ | refine kD ?_ | refine kA ?_ _)); refine q0t (cs := #[.int .i64 ((q00 l0_0 x17_1).f0), .string ((q00 l0_0 x17_1).f1), .slice A176_2 ((q00 l0_0 x17_1).f2).length c176_2, .string (⟨#[]⟩ : ByteArray), .int .i64 0, .slice none 0 0]) ?_ 3 _ rfl; (with_reducible repeat (first | refine kN ?_ _ | refine kD ?_ | refine kA ?_ _)); refine q0t (cs := #[.int .i64 ((q00 l0_0 x17_1).f0), .string ((q00 l0_0 x17_1).f1), .slice none 0 0, .string (⟨#[]⟩ : ByteArray), .int .i64 0, .slice none 0 0]) ?_ 2 _ rfl; (with_reducible repeat (first | refine kN ?_ _ | refine kD ?_ | refine kA ?_ _)); refine q0t (cs := #[.int .i64 ((q00 l0_0 x17_1).f0), .string (⟨#[]⟩ : ByteArray), .slice none 0 0, .string (⟨#[]⟩ : ByteArray), .int .i64 0, .slice none 0 0]) ?_ 1 _ rfl; (with_reducible repeat (first | refine kN ?_ _ | refine kD ?_ | refine kA ?_ _)); refine q0t (cs := #[.int .i64 0, .string (⟨#[]⟩ : ByteArray), .slice none 0 0, .string (⟨#[]⟩ : ByteArray), .int .i64 0, .slice none 0 0]) ?_ 0 _ rfl; (with_reducible repeat (first | refine kN ?_ _ | refine kD ?_ | refine kA ?_ _)); exact BK177.out⟩, ⟨by repeat (first | (with_reducible first | exact HB.out | apply bA | apply bN | apply bD | refine bS ?_ GE172.out | refine bS ?_ GE177.out) | exact HB.out)⟩⟩
    case round =>
     clear H'
     obtain ⟨x3_2, x25_2, rfl, HA, HK2, HO_3, BK172, BK177, HB⟩ := hrel
     cases gk with
     | zero => exact absurd HA.out (by simp [dom_kids.l1])
     | succ k2 =>
      have H := HA.out
      clear HA
      simp only [dom_kids.l1] at H
      refine iT H ?p15 ?n15 <;> clear H
      case' p15 => intro c15b0 H; refine iLp H ?_; clear H; intro c16b0 H; refine iTp H ?_; clear H; intro c17b0 H
      case' n15 => intro c15b0 H
      case p15 =>
       have HC18 := aS H
       clear H
       obtain ⟨ad178, e178, hx178_0, p178, q178⟩ := atIB HB.out HR176_5.out x25_2 (by first | with_reducible assumption | assumption) (by first | with_reducible assumption | assumption)
       cases e178
       go_upto_region 8 with (fail)
       go_cut [29] (fun v29 wc => ∃ (kq : Nat) (x29_17 : Bool), v29 = .bool x29_17 ∧ Aside0 (dom_kids.j2 kq x3_2 x17_1 (rd ((q00 l0_0 x17_1).f5) x25_2) l0_0 (l0_0.length : Int) x17_1 ((q00 l0_0 x17_1).f5) (((q00 l0_0 x17_1).f5).length : Int) x25_2 x29_17 l0_0 a0_1 = some r) ∧ Aside0 (kq ≤ k2) ∧ Aside0 (Kd.R Kd.bool 4 wc w.heap.size (fun _ => True) v174 x3_2) ∧ Aside0 (wc.heap[gb172]? = some (.cells #[(.slice (some ad176) l0_0.length c0_0), .bool a0_1] 24 (0, 0))) ∧ Aside0 (wc.heap[gb177]? = some (.cells #[.int .i64 ((q00 l0_0 x17_1).f0), .string ((q00 l0_0 x17_1).f1), (.slice A176_2 ((q00 l0_0 x17_1).f2).length c176_2), .string ((q00 l0_0 x17_1).f3), .int .i64 ((q00 l0_0 x17_1).f4), (.slice (some ad178) ((q00 l0_0 x17_1).f5).length c176_5)] 43 (0, 0))) ∧ Aside0 (Below w.heap.size w wc))
       case first =>
        have H := HC18.out
        clear HC18
        refine iT H ?p19 ?n19 <;> clear H
        case' p19 => intro c19b0 H
        case' n19 => intro c19b0 H; (first | rw [c19b0] | (simp only [q0d, q0e]; rw [c19b0]) | skip); refine iL H ?p20 ?n20 <;> clear H
        case' p20 => intro c20b0 H
        case' n20 => intro c20b0 H; refine iLp H ?_; clear H; intro c22b0 H; refine iTp H ?_; clear H; intro c23b0 H; refine iE H ?p24 ?n24 <;> clear H
        case' p24 => intro c24b0 c24b1 H; refine iTp H ?_; clear H; intro c25b0 H
        case' n24 => intro c24 c24b0 c24b1 H
        case p19 =>
         (first | rw [c19b0] | (simp only [q0d, q0e]; rw [c19b0]) | skip)
         have H' := aS H
         clear H
         go_wp2
         go_meet
         case rel => exact ⟨_, _, (by first | rfl | (simp; done) | simp [*]), H', ⟨by have := HK1.out; have := HK2.out; first | omega | exact Nat.le_refl _⟩, ⟨by (with_reducible repeat (first | apply rA | apply rN | apply rD)); exact HO_3.out⟩, ⟨by (with_reducible repeat (first | refine kN ?_ _ | refine kD ?_ | refine kA ?_ _)); exact BK172.out⟩, ⟨by (with_reducible repeat (first | refine kN ?_ _ | refine kD ?_ | refine kA ?_ _)); exact BK177.out⟩, ⟨by repeat (first | (with_reducible first | exact HB.out | apply bA | apply bN | apply bD | refine bS ?_ GE172.out | refine bS ?_ GE177.out) | exact HB.out)⟩⟩
        case p20 =>
         have H' := aS H
         clear H
         obtain ⟨Ao21, co21, eo21⟩ := Kd.R_slice HO_3.out
         subst eo21
         go_wp2
         go_meet
         case rel => exact ⟨_, _, (by first | rfl | (simp; done) | simp [*]), H', ⟨by have := HK1.out; have := HK2.out; first | omega | exact Nat.le_refl _⟩, ⟨by (with_reducible repeat (first | apply rA | apply rN | apply rD)); exact HO_3.out⟩, ⟨by (with_reducible repeat (first | refine kN ?_ _ | refine kD ?_ | refine kA ?_ _)); exact BK172.out⟩, ⟨by (with_reducible repeat (first | refine kN ?_ _ | refine kD ?_ | refine kA ?_ _)); exact BK177.out⟩, ⟨by repeat (first | (with_reducible first | exact HB.out | apply bA | apply bN | apply bD | refine bS ?_ GE172.out | refine bS ?_ GE177.out) | exact HB.out)⟩⟩
        case p24 =>
         have H' := aS H
         clear H
         obtain ⟨Ao26, co26, eo26⟩ := Kd.R_slice HO_3.out
         subst eo26
         have hnb27 := NB172_177.out
         have hnc27 := NB177_172.out
         obtain ⟨hczL_0, hczL_1, hfzL_0, hfzL_1⟩ := bk2 BK172.out
         obtain ⟨ad179, A179_2, c179_2, A179_5, c179_5, e179, hx179_0, hx179_1, hx179_2, hx179_3, hx179_4, hx179_5, HC179_2, HR179_2, HC179_5, HR179_5, p179, q179⟩ := q0p HB.out HR0_0.out (rd ((q00 l0_0 x17_1).f5) x25_2) (by first | with_reducible assumption | assumption) (by first | with_reducible assumption | assumption)
         obtain rfl : ad176 = ad179 := (by injection e179)
         obtain ⟨ad180, e180, hx180_0, p180, q180⟩ := atOA (Kd.R_reads' HO_3.out).2.2 (rd ((q00 l0_0 x17_1).f5) x25_2) (by first | with_reducible assumption | assumption) (by first | with_reducible assumption | assumption)
         cases e180
         go_wp2
         go_meet
         case rel => exact ⟨_, (rdOf false x3_2 (rd ((q00 l0_0 x17_1).f5) x25_2)), (by first | rfl | (simp; done) | simp [*]), H', ⟨by have := HK1.out; have := HK2.out; first | omega | exact Nat.le_refl _⟩, ⟨by (with_reducible repeat (first | apply rA | apply rN | apply rD)); exact HO_3.out⟩, ⟨by (with_reducible repeat (first | refine kN ?_ _ | refine kD ?_ | refine kA ?_ _)); exact BK172.out⟩, ⟨by (with_reducible repeat (first | refine kN ?_ _ | refine kD ?_ | refine kA ?_ _)); exact BK177.out⟩, ⟨by repeat (first | (with_reducible first | exact HB.out | apply bA | apply bN | apply bD | refine bS ?_ GE172.out | refine bS ?_ GE177.out) | exact HB.out)⟩⟩
        case n24 =>
         have H' := aS H
         clear H
         obtain ⟨Ao29, co29, eo29⟩ := Kd.R_slice HO_3.out
         subst eo29
         have hnb30 := NB172_177.out
         have hnc30 := NB177_172.out
         obtain ⟨hczL_0, hczL_1, hfzL_0, hfzL_1⟩ := bk2 BK172.out
         obtain ⟨ad179, A179_2, c179_2, A179_5, c179_5, e179, hx179_0, hx179_1, hx179_2, hx179_3, hx179_4, hx179_5, HC179_2, HR179_2, HC179_5, HR179_5, p179, q179⟩ := q0p HB.out HR0_0.out (rd ((q00 l0_0 x17_1).f5) x25_2) (by first | with_reducible assumption | assumption) (by first | with_reducible assumption | assumption)
         obtain rfl : ad176 = ad179 := (by injection e179)
         go_wp2
         go_meet
         case rel => exact ⟨_, _, (by first | rfl | (simp; done) | simp [*]), H', ⟨by have := HK1.out; have := HK2.out; first | omega | exact Nat.le_refl _⟩, ⟨by (with_reducible repeat (first | apply rA | apply rN | apply rD)); exact HO_3.out⟩, ⟨by (with_reducible repeat (first | refine kN ?_ _ | refine kD ?_ | refine kA ?_ _)); exact BK172.out⟩, ⟨by (with_reducible repeat (first | refine kN ?_ _ | refine kD ?_ | refine kA ?_ _)); exact BK177.out⟩, ⟨by repeat (first | (with_reducible first | exact HB.out | apply bA | apply bN | apply bD | refine bS ?_ GE172.out | refine bS ?_ GE177.out) | exact HB.out)⟩⟩
       case rest =>
        clear HC18
        obtain ⟨kq, x29_17, rfl, HA, HJ17, HO_3, BK172, BK177, HB⟩ := hcut
        cases kq with
        | zero => exact absurd HA.out (by simp [dom_kids.j2])
        | succ kj17 =>
         have H := HA.out
         clear HA
         simp only [dom_kids.j2] at H
         refine iV H ?p32 ?n32 <;> clear H
         case' p32 => intro c32 H; subst c32
         case' n32 => intro c32 H; subst c32; refine iE H ?p33 ?n33 <;> clear H
         case' p33 => intro c33b0 c33b1 H; refine iLp H ?_; clear H; intro c34b0 H; refine iTp H ?_; clear H; intro c35b0 H; refine iE H ?p36 ?n36 <;> clear H
         case' p36 => intro c36b0 c36b1 H
         case' n36 => intro c36 c36b0 c36b1 H; refine iTp H ?_; clear H; intro c39b0 H
         case' n33 => intro c33 c33b0 c33b1 H; refine iLp H ?_; clear H; intro c45b0 H; refine iTp H ?_; clear H; intro c46b0 H
         case p32 =>
          obtain rfl := Option.some.inj H
          go_wp2
          go_ret
          exact ⟨by first | rfl | (simp [q02, q01] <;> rfl) | (simp [*, q02, q01] <;> rfl), by repeat (first | (with_reducible first | exact HB.out | apply bA | apply bN | apply bD | refine bS ?_ GE172.out | refine bS ?_ GE177.out) | exact HB.out)⟩
         case p36 =>
          obtain rfl := Option.some.inj H
          have hnb37 := NB172_177.out
          have hnc37 := NB177_172.out
          obtain ⟨hczL_0, hczL_1, hfzL_0, hfzL_1⟩ := bk2 BK172.out
          obtain ⟨ad181, A181_2, c181_2, A181_5, c181_5, e181, hx181_0, hx181_1, hx181_2, hx181_3, hx181_4, hx181_5, HC181_2, HR181_2, HC181_5, HR181_5, p181, q181⟩ := q0p HB.out HR0_0.out (rd ((q00 l0_0 x17_1).f5) x25_2) (by first | with_reducible assumption | assumption) (by first | with_reducible assumption | assumption)
          obtain rfl : ad176 = ad181 := (by injection e181)
          go_wp2
          go_ret
          exact ⟨by first | rfl | (simp [q02, q01] <;> rfl) | (simp [*, q02, q01] <;> rfl), by repeat (first | (with_reducible first | exact HB.out | apply bA | apply bN | apply bD | refine bS ?_ GE172.out | refine bS ?_ GE177.out) | exact HB.out)⟩
         case n36 =>
          obtain ⟨y182, hy182⟩ : ∃ y_ : List Bool, y_ = (x3_2.set ((rd ((q00 l0_0 x17_1).f5) x25_2) : Int).toNat true) := ⟨_, rfl⟩
          replace H : (dom_kids.l1 kj17 y182 x17_1 l0_0 (l0_0.length : Int) x17_1 ((q00 l0_0 x17_1).f5) (((q00 l0_0 x17_1).f5).length : Int) (wrap64 (x25_2 + 1)) l0_0 a0_1) = some r := by first | (rw [hy182]; with_reducible exact H) | (have H2_ := (Option.bind_some _ _).symm.trans H; rw [hy182]; with_reducible exact H2_) | (have H2_ := (Option.bind_some _ _).symm.trans H; with_reducible exact H2_) | with_reducible exact H | (rw [hy182]; exact H) | exact H
          have Ny182 := aS hy182
          clear hy182
          have H' := aS H
          clear H
          have hnb41 := NB172_177.out
          have hnc41 := NB177_172.out
          obtain ⟨hczL_0, hczL_1, hfzL_0, hfzL_1⟩ := bk2 BK172.out
          obtain ⟨ad181, A181_2, c181_2, A181_5, c181_5, e181, hx181_0, hx181_1, hx181_2, hx181_3, hx181_4, hx181_5, HC181_2, HR181_2, HC181_5, HR181_5, p181, q181⟩ := q0p HB.out HR0_0.out (rd ((q00 l0_0 x17_1).f5) x25_2) (by first | with_reducible assumption | assumption) (by first | with_reducible assumption | assumption)
          obtain rfl : ad176 = ad181 := (by injection e181)
          have p40 : 0 ≤ ((rd ((q00 l0_0 x17_1).f5) x25_2) : Int) := od (by first | (with_reducible assumption) | assumption)
          have q40 : ((rd ((q00 l0_0 x17_1).f5) x25_2) : Int) < ((x3_2.length : Int) : Int) := od (by first | (with_reducible assumption) | assumption)
          obtain ⟨go40, co40, eo40, gb40, gl40, cl40, HG40⟩ := Kd.R_form HO_3.out (by omega)
          (first | cases eo40 | (injection eo40 with ea_ en_ ec_; (first | subst ea_ | (injection ea_ with ea_; subst ea_)); subst ec_; clear en_))
          have GB40 := aS gb40
          have GG40 := aS HG40
          clear gb40 gl40 HG40
          obtain ⟨hx40_0, hf40_0⟩ := Kd.R_celln false HO_3.out ((rd ((q00 l0_0 x17_1).f5) x25_2) : Int) p40 q40
          replace p40 := eq_true p40
          replace q40 := eq_true q40
          have HP43 := Kd.R_putg HO_3.out ((rd ((q00 l0_0 x17_1).f5) x25_2) : Int) true
          go_wp2_with (first | ((with_reducible refine gate_store (t := 4) (p := 68) rfl ?_); refine store_event (t := 4) (p := 68) (v := ?vo_w44) (w1 := (wc.setCell ⟨go40, ((rd ((q00 l0_0 x17_1).f5) x25_2) : Int).toNat, none⟩ (.bool true))) ?hg ?ho ?hn ?hr ?_; (case ho => rfl); (case hg => rfl); (case hn => rfl); (case hr => first | (go_simp; done) | (go_simp; rfl)); intro w44 hw; have hg : wc.grownBy w44 (some go40) := (by rw [hw]; exact HP43.2); have hp_ : Kd.R Kd.bool 4 w44 w.heap.size (fun _ => True) (.slice (some ⟨go40, 0, none⟩) x3_2.length co40) y182 := (by rw [hw, Ny182.out]; exact HP43.1); clear HP43; have n0_ := aS (hp_); have n1_ := aS (blk_grown (g := gb172) (o := .cells #[.slice (some ad176) l0_0.length c0_0, .bool a0_1] 24 (0, 0)) (by (with_reducible repeat (first | refine kN ?_ _ | refine kD ?_ | refine kA ?_ _)); exact BK172.out) hg (Kd.R_ne HO_3.out BK172.out (by decide))); have n2_ := aS (blk_grown (g := gb177) (o := .cells #[.int .i64 ((q00 l0_0 x17_1).f0), .string ((q00 l0_0 x17_1).f1), .slice A176_2 ((q00 l0_0 x17_1).f2).length c176_2, .string ((q00 l0_0 x17_1).f3), .int .i64 ((q00 l0_0 x17_1).f4), .slice (some ad178) ((q00 l0_0 x17_1).f5).length c176_5] 43 (0, 0)) (by (with_reducible repeat (first | refine kN ?_ _ | refine kD ?_ | refine kA ?_ _)); exact BK177.out) hg (Kd.R_ne HO_3.out BK177.out (by decide))); have n3_ := aS ((by rw [hw]; exact below_set (HB.out) GB40.out : Below w.heap.size w w44)); clear HO_3; clear BK172; clear BK177; clear HB; have HO_3 := n0_; have BK172 := n1_; have BK177 := n2_; have HB := n3_; clear n0_ n1_ n2_ n3_; clear hg hw hp_))
          go_roundg kj17
          case measure => have := HK1.out; have := HK2.out; have := HJ17.out; omega
          case rel => exact ⟨(y182), (wrap64 (x25_2 + 1)), (by first | rfl | (simp; done) | simp [*]), H', ⟨by have := HK1.out; have := HK2.out; have := HJ17.out; omega⟩, ⟨by (with_reducible repeat (first | apply rA | apply rN | apply rD)); exact HO_3.out⟩, ⟨by (with_reducible repeat (first | refine kN ?_ _ | refine kD ?_ | refine kA ?_ _)); exact BK172.out⟩, ⟨by (with_reducible repeat (first | refine kN ?_ _ | refine kD ?_ | refine kA ?_ _)); exact BK177.out⟩, ⟨by repeat (first | (with_reducible first | exact HB.out | apply bA | apply bN | apply bD | refine bS ?_ GE172.out | refine bS ?_ GE177.out) | exact HB.out)⟩⟩
         case n33 =>
          obtain ⟨y183, hy183⟩ : ∃ y_ : List Bool, y_ = (x3_2.set ((rd ((q00 l0_0 x17_1).f5) x25_2) : Int).toNat true) := ⟨_, rfl⟩
          replace H : (dom_kids.l1 kj17 y183 x17_1 l0_0 (l0_0.length : Int) x17_1 ((q00 l0_0 x17_1).f5) (((q00 l0_0 x17_1).f5).length : Int) (wrap64 (x25_2 + 1)) l0_0 a0_1) = some r := by first | (rw [hy183]; with_reducible exact H) | (have H2_ := (Option.bind_some _ _).symm.trans H; rw [hy183]; with_reducible exact H2_) | (have H2_ := (Option.bind_some _ _).symm.trans H; with_reducible exact H2_) | with_reducible exact H | (rw [hy183]; exact H) | exact H
          have Ny183 := aS hy183
          clear hy183
          have H' := aS H
          clear H
          have p47 : 0 ≤ ((rd ((q00 l0_0 x17_1).f5) x25_2) : Int) := od (by first | (with_reducible assumption) | assumption)
          have q47 : ((rd ((q00 l0_0 x17_1).f5) x25_2) : Int) < ((x3_2.length : Int) : Int) := od (by first | (with_reducible assumption) | assumption)
          obtain ⟨go47, co47, eo47, gb47, gl47, cl47, HG47⟩ := Kd.R_form HO_3.out (by omega)
          (first | cases eo47 | (injection eo47 with ea_ en_ ec_; (first | subst ea_ | (injection ea_ with ea_; subst ea_)); subst ec_; clear en_))
          have GB47 := aS gb47
          have GG47 := aS HG47
          clear gb47 gl47 HG47
          obtain ⟨hx47_0, hf47_0⟩ := Kd.R_celln false HO_3.out ((rd ((q00 l0_0 x17_1).f5) x25_2) : Int) p47 q47
          replace p47 := eq_true p47
          replace q47 := eq_true q47
          have HP48 := Kd.R_putg HO_3.out ((rd ((q00 l0_0 x17_1).f5) x25_2) : Int) true
          go_wp2_with (first | ((with_reducible refine gate_store (t := 4) (p := 68) rfl ?_); refine store_event (t := 4) (p := 68) (v := ?vo_w49) (w1 := (wc.setCell ⟨go47, ((rd ((q00 l0_0 x17_1).f5) x25_2) : Int).toNat, none⟩ (.bool true))) ?hg ?ho ?hn ?hr ?_; (case ho => rfl); (case hg => rfl); (case hn => rfl); (case hr => first | (go_simp; done) | (go_simp; rfl)); intro w49 hw; have hg : wc.grownBy w49 (some go47) := (by rw [hw]; exact HP48.2); have hp_ : Kd.R Kd.bool 4 w49 w.heap.size (fun _ => True) (.slice (some ⟨go47, 0, none⟩) x3_2.length co47) y183 := (by rw [hw, Ny183.out]; exact HP48.1); clear HP48; have n0_ := aS (hp_); have n1_ := aS (blk_grown (g := gb172) (o := .cells #[.slice (some ad176) l0_0.length c0_0, .bool a0_1] 24 (0, 0)) (by (with_reducible repeat (first | refine kN ?_ _ | refine kD ?_ | refine kA ?_ _)); exact BK172.out) hg (Kd.R_ne HO_3.out BK172.out (by decide))); have n2_ := aS (blk_grown (g := gb177) (o := .cells #[.int .i64 ((q00 l0_0 x17_1).f0), .string ((q00 l0_0 x17_1).f1), .slice A176_2 ((q00 l0_0 x17_1).f2).length c176_2, .string ((q00 l0_0 x17_1).f3), .int .i64 ((q00 l0_0 x17_1).f4), .slice (some ad178) ((q00 l0_0 x17_1).f5).length c176_5] 43 (0, 0)) (by (with_reducible repeat (first | refine kN ?_ _ | refine kD ?_ | refine kA ?_ _)); exact BK177.out) hg (Kd.R_ne HO_3.out BK177.out (by decide))); have n3_ := aS ((by rw [hw]; exact below_set (HB.out) GB47.out : Below w.heap.size w w49)); clear HO_3; clear BK172; clear BK177; clear HB; have HO_3 := n0_; have BK172 := n1_; have BK177 := n2_; have HB := n3_; clear n0_ n1_ n2_ n3_; clear hg hw hp_))
          go_roundg kj17
          case measure => have := HK1.out; have := HK2.out; have := HJ17.out; omega
          case rel => exact ⟨(y183), (wrap64 (x25_2 + 1)), (by first | rfl | (simp; done) | simp [*]), H', ⟨by have := HK1.out; have := HK2.out; have := HJ17.out; omega⟩, ⟨by (with_reducible repeat (first | apply rA | apply rN | apply rD)); exact HO_3.out⟩, ⟨by (with_reducible repeat (first | refine kN ?_ _ | refine kD ?_ | refine kA ?_ _)); exact BK172.out⟩, ⟨by (with_reducible repeat (first | refine kN ?_ _ | refine kD ?_ | refine kA ?_ _)); exact BK177.out⟩, ⟨by repeat (first | (with_reducible first | exact HB.out | apply bA | apply bN | apply bD | refine bS ?_ GE172.out | refine bS ?_ GE177.out) | exact HB.out)⟩⟩
      case n15 =>
       have H' := aS H
       clear H
       go_wp2
       go_roundg k2
       case measure => have := HK1.out; have := HK2.out; omega
       case rel => exact ⟨(x3_2), (wrap64 (x17_1 + 1)), (by first | rfl | (simp; done) | simp [*]), H', ⟨by have := HK1.out; have := HK2.out; omega⟩, ⟨by (with_reducible repeat (first | apply rA | apply rN | apply rD)); exact HO_3.out⟩, ⟨by (with_reducible repeat (first | refine kN ?_ _ | refine kD ?_ | refine kA ?_ _)); exact BK172.out⟩, ⟨by repeat (first | (with_reducible first | exact HB.out | apply bA | apply bN | apply bD | refine bS ?_ GE172.out | refine bS ?_ GE177.out) | exact HB.out)⟩⟩
   case n9 =>
    have H' := aS H
    clear H
    obtain ⟨hczL_0, hczL_1, hfzL_0, hfzL_1⟩ := bk2 BK172.out
    go_wp2
    go_loopg [74] k1 (fun kq v74 w' => ∃ (x74_2 : Int), v74 = .int .i64 x74_2 ∧ Aside0 (dom_kids.l2 kq x3_1 l0_0 (l0_0.length : Int) x74_2 l0_0 a0_1 = some r) ∧ Aside0 (kq ≤ k1) ∧ Aside0 (Kd.R Kd.bool 4 w' w.heap.size (fun _ => True) v174 x3_1) ∧ Aside0 (w'.heap[gb172]? = some (.cells #[(.slice A0_0 l0_0.length c0_0), .bool a0_1] 24 (0, 0))) ∧ Aside0 (Below w.heap.size w w'))
    case atStart => exact ⟨(0), (by first | rfl | (simp; done) | simp [*]), H', ⟨Nat.le_refl _⟩, ⟨by (with_reducible repeat (first | apply rA | apply rN | apply rD)); exact HO_3.out⟩, ⟨by (with_reducible repeat (first | refine kN ?_ _ | refine kD ?_ | refine kA ?_ _)); exact BK172.out⟩, ⟨by repeat (first | (with_reducible first | exact HB.out | apply bA | apply bN | apply bD | refine bS ?_ GE172.out) | exact HB.out)⟩⟩
    case round =>
     clear H'
     obtain ⟨x74_2, rfl, HA, HK2, HO_3, BK172, HB⟩ := hrel
     cases gk with
     | zero => exact absurd HA.out (by simp [dom_kids.l2])
     | succ k2 =>
      have H := HA.out
      clear HA
      simp only [dom_kids.l2] at H
      refine iT H ?p51 ?n51 <;> clear H
      case' p51 => intro c51b0 H; refine iLp H ?_; clear H; intro c52b0 H; refine iTp H ?_; clear H; intro c53b0 H; refine iE H ?p54 ?n54 <;> clear H
      case' p54 => intro c54b0 c54b1 H
      case' n54 =>
       intro c54 c54b0 c54b1 H
       refine iTp H ?_; clear H; intro c58b0 H
       obtain ⟨bq59, hbq59⟩ : ∃ b_ : Bool, b_ = (rdOf false x3_1 x74_2) := ⟨_, rfl⟩
       replace H : (if bq59 = true then (dom_kids.l2 k2 x3_1 l0_0 (l0_0.length : Int) (wrap64 (x74_2 + 1)) l0_0 a0_1) else (some 3)) = some r := by rw [← hbq59] at H; exact H
       have Nbq59 := aS hbq59
       clear hbq59
       obtain ⟨ad184, A184_2, c184_2, A184_5, c184_5, e184, hx184_0, hx184_1, hx184_2, hx184_3, hx184_4, hx184_5, HC184_2, HR184_2, HC184_5, HR184_5, p184, q184⟩ := q0p HB.out HR0_0.out x74_2 (by first | with_reducible assumption | assumption) (by first | with_reducible assumption | assumption)
       cases e184
       refine iV H ?p60 ?n60 <;> clear H
      case' p60 => intro c60 H; subst c60
      case' n60 => intro c60 H; subst c60
      case' n51 =>
       intro c51b0 H
       obtain ⟨hczL_0, hczL_1, hfzL_0, hfzL_1⟩ := bk2 BK172.out
       refine iTNp (m := 0) (n := l0_0.length) H rfl rfl ?_; clear H; intro c69b0 c69b1 H
       have p187 : 0 ≤ (0 : Int) := (by omega)
       have q187 : 0 < (l0_0.length : Int) := od (by first | (with_reducible assumption) | assumption)
       obtain ⟨ad187, A187_2, c187_2, A187_5, c187_5, e187, hx187_0, hx187_1, hx187_2, hx187_3, hx187_4, hx187_5, hl187_2, hi187_2, hl187_5, hi187_5⟩ := at_T43 HR0_0.out 0 p187 q187
       cases e187
       refine iE H ?p70 ?n70 <;> clear H
      case' p70 => intro c70b0 c70b1 H
      case' n70 => intro c70 c70b0 c70b1 H
      case p54 =>
       have H' := aS H
       clear H
       obtain ⟨ad184, A184_2, c184_2, A184_5, c184_5, e184, hx184_0, hx184_1, hx184_2, hx184_3, hx184_4, hx184_5, HC184_2, HR184_2, HC184_5, HR184_5, p184, q184⟩ := q0p HB.out HR0_0.out x74_2 (by first | with_reducible assumption | assumption) (by first | with_reducible assumption | assumption)
       cases e184
       go_wp2_with (first | ((with_reducible refine q0c (N := 9) rfl ?_); (try (refine q0z (by rfl) ?_; dsimp only)); refine q0q ?hg (N := 9) ?hd (cs := #[.int .i64 0, .string (⟨#[]⟩ : ByteArray), .slice none 0 0, .string (⟨#[]⟩ : ByteArray), .int .i64 0, .slice none 0 0]) (t := 43) ?hr ?_; (case hd => rfl); (case hg => rfl); (case hr => first | (go_simp; done) | (go_simp; rfl)); intro gb185 hg w55 hbox hb; have n0_ := aS (Kd.R_below (by (with_reducible repeat (first | apply rA | apply rN | apply rD)); exact HO_3.out) hb); have n1_ := aS (q08 (g := gb172) (o := .cells #[.slice (some ad184) l0_0.length c0_0, .bool a0_1] 24 (0, 0)) (by (with_reducible repeat (first | refine kN ?_ _ | refine kD ?_ | refine kA ?_ _)); exact BK172.out) hb); have n2_ := aS (q03 (by repeat (first | (with_reducible first | exact HB.out | apply bA | apply bN | apply bD | refine bS ?_ GE172.out) | exact HB.out)) hb); have n3_ := aS (hbox); have n4_ := aS ((by rw [hg]; exact (q0g (by repeat (first | (with_reducible first | exact HB.out | apply bA | apply bN | apply bD | refine bS ?_ GE172.out) | exact HB.out))) : w.heap.size ≤ gb185)); have n5_ := aS ((by rw [hg]; exact (q0g (by repeat (first | (with_reducible first | exact HB.out | apply bA | apply bN | apply bD | refine bS ?_ GE172.out) | exact HB.out))) : w.heap.size ≤ gb185)); have n6_ := aS ((by rw [hg]; exact Nat.ne_of_lt (q1j (g := gb172) (o := .cells #[.slice (some ad184) l0_0.length c0_0, .bool a0_1] 24 (0, 0)) (by (with_reducible repeat (first | refine kN ?_ _ | refine kD ?_ | refine kA ?_ _)); exact BK172.out)) : gb172 ≠ gb185)); have n7_ := aS ((by rw [hg]; exact Nat.ne_of_gt (q1j (g := gb172) (o := .cells #[.slice (some ad184) l0_0.length c0_0, .bool a0_1] 24 (0, 0)) (by (with_reducible repeat (first | refine kN ?_ _ | refine kD ?_ | refine kA ?_ _)); exact BK172.out)) : gb185 ≠ gb172)); clear HO_3; clear BK172; clear HB; have HO_3 := n0_; have BK172 := n1_; have HB := n2_; have BK185 := n3_; have GW185 := n4_; have GE185 := n5_; have NB172_185 := n6_; have NB185_172 := n7_; clear n0_ n1_ n2_ n3_ n4_ n5_ n6_ n7_; clear hb hbox hg; have hnb56 := NB185_172.out; have hnc56 := NB172_185.out; obtain ⟨hczL_0, hczL_1, hczL_2, hczL_3, hczL_4, hczL_5, hfzL_0, hfzL_1, hfzL_2, hfzL_3, hfzL_4, hfzL_5⟩ := bk6 BK185.out))
       go_roundg k2
       case measure => have := HK1.out; have := HK2.out; omega
       case rel => exact ⟨(wrap64 (x74_2 + 1)), (by first | rfl | (simp; done) | simp [*]), H', ⟨by have := HK1.out; have := HK2.out; omega⟩, ⟨by (with_reducible repeat (first | apply rA | apply rN | apply rD)); exact Kd.R_mono (Kd.R_far (p := ⟨gb185, 5, none⟩) (Kd.R_far (p := ⟨gb185, 4, none⟩) (Kd.R_far (p := ⟨gb185, 3, none⟩) (Kd.R_far (p := ⟨gb185, 2, none⟩) (Kd.R_far (p := ⟨gb185, 1, none⟩) (Kd.R_far (p := ⟨gb185, 0, none⟩) (Kd.R_types HO_3.out BK185.out (by decide)) (fun _ hk => hk.2) (.int .i64 ((q00 l0_0 x74_2).f0))) (fun _ hk => hk.2) (.string ((q00 l0_0 x74_2).f1))) (fun _ hk => hk.2) (.slice A184_2 ((q00 l0_0 x74_2).f2).length c184_2)) (fun _ hk => hk.2) (.string ((q00 l0_0 x74_2).f3))) (fun _ hk => hk.2) (.int .i64 ((q00 l0_0 x74_2).f4))) (fun _ hk => hk.2) (.slice A184_5 ((q00 l0_0 x74_2).f5).length c184_5)) (fun _ hk => trivial)⟩, ⟨by (with_reducible repeat (first | refine kN ?_ _ | refine kD ?_ | refine kA ?_ _)); refine q0u ?_ NB172_185.out _; (with_reducible repeat (first | refine kN ?_ _ | refine kD ?_ | refine kA ?_ _)); refine q0u ?_ NB172_185.out _; (with_reducible repeat (first | refine kN ?_ _ | refine kD ?_ | refine kA ?_ _)); refine q0u ?_ NB172_185.out _; (with_reducible repeat (first | refine kN ?_ _ | refine kD ?_ | refine kA ?_ _)); refine q0u ?_ NB172_185.out _; (with_reducible repeat (first | refine kN ?_ _ | refine kD ?_ | refine kA ?_ _)); refine q0u ?_ NB172_185.out _; (with_reducible repeat (first | refine kN ?_ _ | refine kD ?_ | refine kA ?_ _)); refine q0u ?_ NB172_185.out _; (with_reducible repeat (first | refine kN ?_ _ | refine kD ?_ | refine kA ?_ _)); exact BK172.out⟩, ⟨by repeat (first | (with_reducible first | exact HB.out | apply bA | apply bN | apply bD | refine bS ?_ GE172.out | refine bS ?_ GE185.out) | exact HB.out)⟩⟩
      case p60 =>
       have H' := aS H
       clear H
       go_wp2_with (first | ((with_reducible refine q0c (N := 9) rfl ?_); (try (refine q0z (by rfl) ?_; dsimp only)); refine q0q ?hg (N := 9) ?hd (cs := #[.int .i64 0, .string (⟨#[]⟩ : ByteArray), .slice none 0 0, .string (⟨#[]⟩ : ByteArray), .int .i64 0, .slice none 0 0]) (t := 43) ?hr ?_; (case hd => rfl); (case hg => rfl); (case hr => first | (go_simp; done) | (go_simp; rfl)); intro gb185 hg w61 hbox hb; have n0_ := aS (Kd.R_below (by (with_reducible repeat (first | apply rA | apply rN | apply rD)); exact HO_3.out) hb); have n1_ := aS (q08 (g := gb172) (o := .cells #[.slice (some ad184) l0_0.length c0_0, .bool a0_1] 24 (0, 0)) (by (with_reducible repeat (first | refine kN ?_ _ | refine kD ?_ | refine kA ?_ _)); exact BK172.out) hb); have n2_ := aS (q03 (by repeat (first | (with_reducible first | exact HB.out | apply bA | apply bN | apply bD | refine bS ?_ GE172.out) | exact HB.out)) hb); have n3_ := aS (hbox); have n4_ := aS ((by rw [hg]; exact (q0g (by repeat (first | (with_reducible first | exact HB.out | apply bA | apply bN | apply bD | refine bS ?_ GE172.out) | exact HB.out))) : w.heap.size ≤ gb185)); have n5_ := aS ((by rw [hg]; exact (q0g (by repeat (first | (with_reducible first | exact HB.out | apply bA | apply bN | apply bD | refine bS ?_ GE172.out) | exact HB.out))) : w.heap.size ≤ gb185)); have n6_ := aS ((by rw [hg]; exact Nat.ne_of_lt (q1j (g := gb172) (o := .cells #[.slice (some ad184) l0_0.length c0_0, .bool a0_1] 24 (0, 0)) (by (with_reducible repeat (first | refine kN ?_ _ | refine kD ?_ | refine kA ?_ _)); exact BK172.out)) : gb172 ≠ gb185)); have n7_ := aS ((by rw [hg]; exact Nat.ne_of_gt (q1j (g := gb172) (o := .cells #[.slice (some ad184) l0_0.length c0_0, .bool a0_1] 24 (0, 0)) (by (with_reducible repeat (first | refine kN ?_ _ | refine kD ?_ | refine kA ?_ _)); exact BK172.out)) : gb185 ≠ gb172)); clear HO_3; clear BK172; clear HB; have HO_3 := n0_; have BK172 := n1_; have HB := n2_; have BK185 := n3_; have GW185 := n4_; have GE185 := n5_; have NB172_185 := n6_; have NB185_172 := n7_; clear n0_ n1_ n2_ n3_ n4_ n5_ n6_ n7_; clear hb hbox hg; have hnb62 := NB185_172.out; have hnc62 := NB172_185.out; obtain ⟨hczL_0, hczL_1, hczL_2, hczL_3, hczL_4, hczL_5, hfzL_0, hfzL_1, hfzL_2, hfzL_3, hfzL_4, hfzL_5⟩ := bk6 BK185.out; obtain ⟨Ao64, co64, eo64⟩ := Kd.R_slice HO_3.out; subst eo64; have p186 : 0 ≤ (x74_2 : Int) := od (by first | (with_reducible assumption) | assumption); have q186 : x74_2 < (x3_1.length : Int) := od (by first | (with_reducible assumption) | assumption); obtain ⟨ad186, e186, hx186_0⟩ := Kd.at_bool (Kd.R_reads' HO_3.out).2.2 x74_2 p186 q186; (try rw [← Nbq59.out] at hx186_0); cases e186; have hn186_0 : ad186.block ≠ gb185 := Kd.own_blk (Kd.R_ne HO_3.out BK185.out (by decide)); have hn186_1 : ad186.block ≠ gb185 := Kd.own_blk (Kd.R_ne HO_3.out BK185.out (by decide)); have hn186_2 : ad186.block ≠ gb185 := Kd.own_blk (Kd.R_ne HO_3.out BK185.out (by decide)); have hn186_3 : ad186.block ≠ gb185 := Kd.own_blk (Kd.R_ne HO_3.out BK185.out (by decide)); have hn186_4 : ad186.block ≠ gb185 := Kd.own_blk (Kd.R_ne HO_3.out BK185.out (by decide)); have hn186_5 : ad186.block ≠ gb185 := Kd.own_blk (Kd.R_ne HO_3.out BK185.out (by decide)); replace hx186_0 := (q1r (p := ⟨gb185, 0, none⟩) (by first | (rw [q0n]; exact hn186_0) | (show (Addr.add _ _).block ≠ _; rw [q0n]; exact hn186_0) | exact hn186_0) (.int .i64 ((q00 l0_0 x74_2).f0))).trans hx186_0; replace hx186_0 := (q1r (p := ⟨gb185, 1, none⟩) (by first | (rw [q0n]; exact hn186_1) | (show (Addr.add _ _).block ≠ _; rw [q0n]; exact hn186_1) | exact hn186_1) (.string ((q00 l0_0 x74_2).f1))).trans hx186_0; replace hx186_0 := (q1r (p := ⟨gb185, 2, none⟩) (by first | (rw [q0n]; exact hn186_2) | (show (Addr.add _ _).block ≠ _; rw [q0n]; exact hn186_2) | exact hn186_2) (.slice A184_2 ((q00 l0_0 x74_2).f2).length c184_2)).trans hx186_0; replace hx186_0 := (q1r (p := ⟨gb185, 3, none⟩) (by first | (rw [q0n]; exact hn186_3) | (show (Addr.add _ _).block ≠ _; rw [q0n]; exact hn186_3) | exact hn186_3) (.string ((q00 l0_0 x74_2).f3))).trans hx186_0; replace hx186_0 := (q1r (p := ⟨gb185, 4, none⟩) (by first | (rw [q0n]; exact hn186_4) | (show (Addr.add _ _).block ≠ _; rw [q0n]; exact hn186_4) | exact hn186_4) (.int .i64 ((q00 l0_0 x74_2).f4))).trans hx186_0; replace hx186_0 := (q1r (p := ⟨gb185, 5, none⟩) (by first | (rw [q0n]; exact hn186_5) | (show (Addr.add _ _).block ≠ _; rw [q0n]; exact hn186_5) | exact hn186_5) (.slice A184_5 ((q00 l0_0 x74_2).f5).length c184_5)).trans hx186_0; clear hn186_0; clear hn186_1; clear hn186_2; clear hn186_3; clear hn186_4; clear hn186_5; replace p186 := eq_true p186; replace q186 := eq_true q186))
       go_roundg k2
       case measure => have := HK1.out; have := HK2.out; omega
       case rel => exact ⟨(wrap64 (x74_2 + 1)), (by first | rfl | (simp; done) | simp [*]), H', ⟨by have := HK1.out; have := HK2.out; omega⟩, ⟨by (with_reducible repeat (first | apply rA | apply rN | apply rD)); exact Kd.R_mono (Kd.R_far (p := ⟨gb185, 5, none⟩) (Kd.R_far (p := ⟨gb185, 4, none⟩) (Kd.R_far (p := ⟨gb185, 3, none⟩) (Kd.R_far (p := ⟨gb185, 2, none⟩) (Kd.R_far (p := ⟨gb185, 1, none⟩) (Kd.R_far (p := ⟨gb185, 0, none⟩) (Kd.R_types HO_3.out BK185.out (by decide)) (fun _ hk => hk.2) (.int .i64 ((q00 l0_0 x74_2).f0))) (fun _ hk => hk.2) (.string ((q00 l0_0 x74_2).f1))) (fun _ hk => hk.2) (.slice A184_2 ((q00 l0_0 x74_2).f2).length c184_2)) (fun _ hk => hk.2) (.string ((q00 l0_0 x74_2).f3))) (fun _ hk => hk.2) (.int .i64 ((q00 l0_0 x74_2).f4))) (fun _ hk => hk.2) (.slice A184_5 ((q00 l0_0 x74_2).f5).length c184_5)) (fun _ hk => trivial)⟩, ⟨by (with_reducible repeat (first | refine kN ?_ _ | refine kD ?_ | refine kA ?_ _)); refine q0u ?_ NB172_185.out _; (with_reducible repeat (first | refine kN ?_ _ | refine kD ?_ | refine kA ?_ _)); refine q0u ?_ NB172_185.out _; (with_reducible repeat (first | refine kN ?_ _ | refine kD ?_ | refine kA ?_ _)); refine q0u ?_ NB172_185.out _; (with_reducible repeat (first | refine kN ?_ _ | refine kD ?_ | refine kA ?_ _)); refine q0u ?_ NB172_185.out _; (with_reducible repeat (first | refine kN ?_ _ | refine kD ?_ | refine kA ?_ _)); refine q0u ?_ NB172_185.out _; (with_reducible repeat (first | refine kN ?_ _ | refine kD ?_ | refine kA ?_ _)); refine q0u ?_ NB172_185.out _; (with_reducible repeat (first | refine kN ?_ _ | refine kD ?_ | refine kA ?_ _)); exact BK172.out⟩, ⟨by repeat (first | (with_reducible first | exact HB.out | apply bA | apply bN | apply bD | refine bS ?_ GE172.out | refine bS ?_ GE185.out) | exact HB.out)⟩⟩
      case n60 =>
       obtain rfl := Option.some.inj H
       go_wp2_with (first | ((with_reducible refine q0c (N := 9) rfl ?_); (try (refine q0z (by rfl) ?_; dsimp only)); refine q0q ?hg (N := 9) ?hd (cs := #[.int .i64 0, .string (⟨#[]⟩ : ByteArray), .slice none 0 0, .string (⟨#[]⟩ : ByteArray), .int .i64 0, .slice none 0 0]) (t := 43) ?hr ?_; (case hd => rfl); (case hg => rfl); (case hr => first | (go_simp; done) | (go_simp; rfl)); intro gb185 hg w65 hbox hb; have n0_ := aS (Kd.R_below (by (with_reducible repeat (first | apply rA | apply rN | apply rD)); exact HO_3.out) hb); have n1_ := aS (q08 (g := gb172) (o := .cells #[.slice (some ad184) l0_0.length c0_0, .bool a0_1] 24 (0, 0)) (by (with_reducible repeat (first | refine kN ?_ _ | refine kD ?_ | refine kA ?_ _)); exact BK172.out) hb); have n2_ := aS (q03 (by repeat (first | (with_reducible first | exact HB.out | apply bA | apply bN | apply bD | refine bS ?_ GE172.out) | exact HB.out)) hb); have n3_ := aS (hbox); have n4_ := aS ((by rw [hg]; exact (q0g (by repeat (first | (with_reducible first | exact HB.out | apply bA | apply bN | apply bD | refine bS ?_ GE172.out) | exact HB.out))) : w.heap.size ≤ gb185)); have n5_ := aS ((by rw [hg]; exact (q0g (by repeat (first | (with_reducible first | exact HB.out | apply bA | apply bN | apply bD | refine bS ?_ GE172.out) | exact HB.out))) : w.heap.size ≤ gb185)); have n6_ := aS ((by rw [hg]; exact Nat.ne_of_lt (q1j (g := gb172) (o := .cells #[.slice (some ad184) l0_0.length c0_0, .bool a0_1] 24 (0, 0)) (by (with_reducible repeat (first | refine kN ?_ _ | refine kD ?_ | refine kA ?_ _)); exact BK172.out)) : gb172 ≠ gb185)); have n7_ := aS ((by rw [hg]; exact Nat.ne_of_gt (q1j (g := gb172) (o := .cells #[.slice (some ad184) l0_0.length c0_0, .bool a0_1] 24 (0, 0)) (by (with_reducible repeat (first | refine kN ?_ _ | refine kD ?_ | refine kA ?_ _)); exact BK172.out)) : gb185 ≠ gb172)); clear HO_3; clear BK172; clear HB; have HO_3 := n0_; have BK172 := n1_; have HB := n2_; have BK185 := n3_; have GW185 := n4_; have GE185 := n5_; have NB172_185 := n6_; have NB185_172 := n7_; clear n0_ n1_ n2_ n3_ n4_ n5_ n6_ n7_; clear hb hbox hg; have hnb66 := NB185_172.out; have hnc66 := NB172_185.out; obtain ⟨hczL_0, hczL_1, hczL_2, hczL_3, hczL_4, hczL_5, hfzL_0, hfzL_1, hfzL_2, hfzL_3, hfzL_4, hfzL_5⟩ := bk6 BK185.out; obtain ⟨Ao68, co68, eo68⟩ := Kd.R_slice HO_3.out; subst eo68; have p186 : 0 ≤ (x74_2 : Int) := od (by first | (with_reducible assumption) | assumption); have q186 : x74_2 < (x3_1.length : Int) := od (by first | (with_reducible assumption) | assumption); obtain ⟨ad186, e186, hx186_0⟩ := Kd.at_bool (Kd.R_reads' HO_3.out).2.2 x74_2 p186 q186; (try rw [← Nbq59.out] at hx186_0); cases e186; have hn186_0 : ad186.block ≠ gb185 := Kd.own_blk (Kd.R_ne HO_3.out BK185.out (by decide)); have hn186_1 : ad186.block ≠ gb185 := Kd.own_blk (Kd.R_ne HO_3.out BK185.out (by decide)); have hn186_2 : ad186.block ≠ gb185 := Kd.own_blk (Kd.R_ne HO_3.out BK185.out (by decide)); have hn186_3 : ad186.block ≠ gb185 := Kd.own_blk (Kd.R_ne HO_3.out BK185.out (by decide)); have hn186_4 : ad186.block ≠ gb185 := Kd.own_blk (Kd.R_ne HO_3.out BK185.out (by decide)); have hn186_5 : ad186.block ≠ gb185 := Kd.own_blk (Kd.R_ne HO_3.out BK185.out (by decide)); replace hx186_0 := (q1r (p := ⟨gb185, 0, none⟩) (by first | (rw [q0n]; exact hn186_0) | (show (Addr.add _ _).block ≠ _; rw [q0n]; exact hn186_0) | exact hn186_0) (.int .i64 ((q00 l0_0 x74_2).f0))).trans hx186_0; replace hx186_0 := (q1r (p := ⟨gb185, 1, none⟩) (by first | (rw [q0n]; exact hn186_1) | (show (Addr.add _ _).block ≠ _; rw [q0n]; exact hn186_1) | exact hn186_1) (.string ((q00 l0_0 x74_2).f1))).trans hx186_0; replace hx186_0 := (q1r (p := ⟨gb185, 2, none⟩) (by first | (rw [q0n]; exact hn186_2) | (show (Addr.add _ _).block ≠ _; rw [q0n]; exact hn186_2) | exact hn186_2) (.slice A184_2 ((q00 l0_0 x74_2).f2).length c184_2)).trans hx186_0; replace hx186_0 := (q1r (p := ⟨gb185, 3, none⟩) (by first | (rw [q0n]; exact hn186_3) | (show (Addr.add _ _).block ≠ _; rw [q0n]; exact hn186_3) | exact hn186_3) (.string ((q00 l0_0 x74_2).f3))).trans hx186_0; replace hx186_0 := (q1r (p := ⟨gb185, 4, none⟩) (by first | (rw [q0n]; exact hn186_4) | (show (Addr.add _ _).block ≠ _; rw [q0n]; exact hn186_4) | exact hn186_4) (.int .i64 ((q00 l0_0 x74_2).f4))).trans hx186_0; replace hx186_0 := (q1r (p := ⟨gb185, 5, none⟩) (by first | (rw [q0n]; exact hn186_5) | (show (Addr.add _ _).block ≠ _; rw [q0n]; exact hn186_5) | exact hn186_5) (.slice A184_5 ((q00 l0_0 x74_2).f5).length c184_5)).trans hx186_0; clear hn186_0; clear hn186_1; clear hn186_2; clear hn186_3; clear hn186_4; clear hn186_5; replace p186 := eq_true p186; replace q186 := eq_true q186))
       go_ret
       exact ⟨by first | rfl | (simp [q02, q01] <;> rfl) | (simp [*, q02, q01] <;> rfl), by repeat (first | (with_reducible first | exact HB.out | apply bA | apply bN | apply bD | refine bS ?_ GE172.out | refine bS ?_ GE185.out) | exact HB.out)⟩
      case p70|n70 =>
       obtain rfl := Option.some.inj H
       have qi187 : (0 < l0_0.length) = True := eq_true (by omega)
       (try rw [show ((0 : Int)).toNat = 0 from rfl] at hx187_0)
       (try rw [show 0 * 6 = 0 from rfl] at hx187_0)
       (try rw [Addr.add_zero'] at hx187_0)
       (try rw [show ((0 : Int)).toNat = 0 from rfl] at hx187_1)
       (try rw [show 0 * 6 = 0 from rfl] at hx187_1)
       (try rw [Addr.add_zero'] at hx187_1)
       (try rw [show ((0 : Int)).toNat = 0 from rfl] at hx187_2)
       (try rw [show 0 * 6 = 0 from rfl] at hx187_2)
       (try rw [Addr.add_zero'] at hx187_2)
       (try rw [show ((0 : Int)).toNat = 0 from rfl] at hx187_3)
       (try rw [show 0 * 6 = 0 from rfl] at hx187_3)
       (try rw [Addr.add_zero'] at hx187_3)
       (try rw [show ((0 : Int)).toNat = 0 from rfl] at hx187_4)
       (try rw [show 0 * 6 = 0 from rfl] at hx187_4)
       (try rw [Addr.add_zero'] at hx187_4)
       (try rw [show ((0 : Int)).toNat = 0 from rfl] at hx187_5)
       (try rw [show 0 * 6 = 0 from rfl] at hx187_5)
       (try rw [Addr.add_zero'] at hx187_5)
       replace hx187_0 := q09 HB.out hx187_0
       replace hx187_1 := q09 HB.out hx187_1
       replace hx187_2 := q09 HB.out hx187_2
       replace hx187_3 := q09 HB.out hx187_3
       replace hx187_4 := q09 HB.out hx187_4
       replace hx187_5 := q09 HB.out hx187_5
       have HR187_2 := aS hi187_2
       have HC187_2 := aS hl187_2
       clear hi187_2 hl187_2
       have HR187_5 := aS hi187_5
       have HC187_5 := aS hl187_5
       clear hi187_5 hl187_5
       replace p187 := eq_true p187
       replace q187 := eq_true q187
       go_wp2
       go_ret
       exact ⟨by first | rfl | (simp [q02, q01] <;> rfl) | (simp [*, q02, q01] <;> rfl), by repeat (first | (with_reducible first | exact HB.out | apply bA | apply bN | apply bD | refine bS ?_ GE172.out) | exact HB.out)⟩
end Go.Proofs.YthjnallbbhnndaaDoor.XWp
namespace Go.Proofs.YthjnallbbhnndaaDoor.XWp
open Go.Proofs.YthjnallbbhnndaaDoor.Short Go.RowKit Go.Proofs.YthjnallbbhnndaaDoorW.PrintWords Go.Proofs.YthjnallbbhnndaaDoorW.PrintLast Go.Proofs.YthjnallbbhnndaaDoorW.PrintMore
attribute [local go_sem] q15 q13 q1i q1h q0x q0w q14 q12   -- for this text's walks alone
set_option linter.unusedVariables false
set_option linter.unusedSimpArgs false
def dom_up.l0 : Nat → Int → Int → List (S43) → Bool → Option (Int)
 | 0, _, _, _, _ => none
 | k + 1, x1, x4, x189000, x189001 => if 0 ≤ x1 then (if x1 < (x189000.length : Int) then (if ((q00 x189000 x1).f4) ≥ 0 then (if x4 ≤ (x189000.length : Int) then (dom_up.l0 k ((q00 x189000 x1).f4) (wrap64 (x4 + 1)) x189000 x189001) else (some x4)) else (some x4)) else (none)) else (none)
def dom_up.f (k : Nat) (l0_0 : List (S43)) (a0_1 : Bool) (a1 : Int) : Option (Int) := dom_up.l0 k a1 0 l0_0 a0_1
theorem dom_up.mono_l : ∀ k, (∀ y0 y1 y2 y3, LeO (dom_up.l0 k y0 y1 y2 y3) (dom_up.l0 (k + 1) y0 y1 y2 y3))
 | 0 => fun _ _ _ _ r h => by simp [dom_up.l0] at h
 | k + 1 => by
  have ih0 := dom_up.mono_l k
  ·intro y0 y1 y2 y3
   unfold dom_up.l0
   repeat' first | with_reducible first | apply ih0 | exact LeO.refl _ | exact LeO.none _ | refine LeO.ite ?_ ?_ | refine LeO.bind ?_ (fun _ => ?_) | (first | apply ih0 | exact LeO.none _ | refine LeO.ite ?_ ?_ | refine LeO.bind ?_ (fun _ => ?_))
theorem dom_up.mono : ∀ a0 a1 a2 k, LeO (dom_up.f k a0 a1 a2) (dom_up.f (k + 1) a0 a1 a2) := by
 intro a0 a1 a2 k
 have ih0 := dom_up.mono_l k
 unfold dom_up.f
 repeat' first | with_reducible first | apply ih0 | exact LeO.refl _ | exact LeO.none _ | refine LeO.ite ?_ ?_ | refine LeO.bind ?_ (fun _ => ?_) | (first | apply ih0 | exact LeO.none _ | refine LeO.ite ?_ ?_ | refine LeO.bind ?_ (fun _ => ?_))
set_option maxHeartbeats 8000000 in
set_option maxRecDepth 100000 in
theorem dom_up.calls (k : Nat) (A0_0 : Option Addr) (c0_0 : Nat) (l0_0 : List (S43)) (a0_1 : Bool) (a1 : Int) (r : Int) (w : World) (hr0_0 : Kd.C k43 w A0_0 l0_0.length l0_0) (hc0_0 : l0_0.length ≤ c0_0) (h : dom_up.f k l0_0 a0_1 a1 = some r) :
 Calls Tryd.prog 102 #[.agg #[.slice A0_0 l0_0.length c0_0, .bool a0_1], .int .i64 a1] w fun e w' => e = .returned (.int .i64 r) ∧ Below w.heap.size w w' := by
 have hu24 := Tryd.underlying24
 have HR0_0 := aS hr0_0
 have HC0_0 := aS hc0_0
 clear hr0_0 hc0_0
 have HB := aS (Below.refl w.heap.size w)
 have H := h; clear h; unfold dom_up.f at H
 have H' := aS H
 clear H
 go_enter Tryd.func102, Tryd.ntmps102
 go_wp2_with (first | ((with_reducible refine q0c (N := 2) rfl ?_); (try (refine q0z (by rfl) ?_; dsimp only)); refine box0 rfl (N := 2) rfl (cs := #[.slice A0_0 l0_0.length c0_0, .bool a0_1]) (t := 24) (by first | (go_simp; done) | (go_simp; rfl)) (by repeat (first | (with_reducible first | exact HB.out | apply bA | apply bN | apply bD) | exact HB.out)) ?_; clear HB; intro gb188 w3 BK188 GW188 HB; have GE188 := GW188))
 go_loopg [1, 4] k (fun kq v1 v4 w' => ∃ (x1_1 : Int) (x4_1 : Int), v1 = .int .i64 x1_1 ∧ v4 = .int .i64 x4_1 ∧ Aside0 (dom_up.l0 kq x1_1 x4_1 l0_0 a0_1 = some r) ∧ Aside0 (kq ≤ k) ∧ Aside0 (w'.heap[gb188]? = some (.cells #[(.slice A0_0 l0_0.length c0_0), .bool a0_1] 24 (0, 0))) ∧ Aside0 (Below w.heap.size w w'))
 case atStart => exact ⟨(a1), (0), (by first | rfl | (simp; done) | simp [*]), (by first | rfl | (simp; done) | simp [*]), H', ⟨Nat.le_refl _⟩, ⟨by (with_reducible repeat (first | refine kN ?_ _ | refine kD ?_ | refine kA ?_ _)); exact BK188.out⟩, ⟨by repeat (first | (with_reducible first | exact HB.out | apply bA | apply bN | apply bD | refine bS ?_ GE188.out) | exact HB.out)⟩⟩
 case round =>
  clear H'
  obtain ⟨x1_1, x4_1, rfl, rfl, HA, HK1, BK188, HB⟩ := hrel
  cases gk with
  | zero => exact absurd HA.out (by simp [dom_up.l0])
  | succ k1 =>
   have H := HA.out
   clear HA
   simp only [dom_up.l0] at H
   obtain ⟨hczL_0, hczL_1, hfzL_0, hfzL_1⟩ := bk2 BK188.out
   refine iLp H ?_; clear H; intro c4b0 H
   refine iTp H ?_; clear H; intro c5b0 H
   obtain ⟨ad189, A189_2, c189_2, A189_5, c189_5, e189, hx189_0, hx189_1, hx189_2, hx189_3, hx189_4, hx189_5, HC189_2, HR189_2, HC189_5, HR189_5, p189, q189⟩ := q0p HB.out HR0_0.out x1_1 (by first | with_reducible assumption | assumption) (by first | with_reducible assumption | assumption)
   cases e189
   refine iL H ?p6 ?n6 <;> clear H
   case' p6 => intro c6b0 H; refine iL H ?p7 ?n7 <;> clear H
   case' p7 => intro c7b0 H
   case' n7 => intro c7b0 H
   case' n6 => intro c6b0 H
   case p7 =>
    have H' := aS H
    clear H
    obtain ⟨ad190, A190_2, c190_2, A190_5, c190_5, e190, hx190_0, hx190_1, hx190_2, hx190_3, hx190_4, hx190_5, HC190_2, HR190_2, HC190_5, HR190_5, p190, q190⟩ := q0p HB.out HR0_0.out x1_1 (by first | with_reducible assumption | assumption) (by first | with_reducible assumption | assumption)
    obtain rfl : ad189 = ad190 := (by injection e190)
    have ea_ := Option.some.inj (hx189_2.symm.trans hx190_2)
    injection ea_ with ea_ en_ ec_
    subst ea_
    subst ec_
    clear en_
    have ea_ := Option.some.inj (hx189_5.symm.trans hx190_5)
    injection ea_ with ea_ en_ ec_
    subst ea_
    subst ec_
    clear en_
    go_wp2
    go_roundg k1
    case measure => have := HK1.out; omega
    case rel => exact ⟨((q00 l0_0 x1_1).f4), (wrap64 (x4_1 + 1)), (by first | rfl | (simp; done) | simp [*]), (by first | rfl | (simp; done) | simp [*]), H', ⟨by have := HK1.out; omega⟩, ⟨by (with_reducible repeat (first | refine kN ?_ _ | refine kD ?_ | refine kA ?_ _)); exact BK188.out⟩, ⟨by repeat (first | (with_reducible first | exact HB.out | apply bA | apply bN | apply bD | refine bS ?_ GE188.out) | exact HB.out)⟩⟩
   case n7|n6 =>
    obtain rfl := Option.some.inj H
    go_wp2
    go_ret
    exact ⟨by first | rfl | (simp [q02, q01] <;> rfl) | (simp [*, q02, q01] <;> rfl), by repeat (first | (with_reducible first | exact HB.out | apply bA | apply bN | apply bD | refine bS ?_ GE188.out) | exact HB.out)⟩
mutual
def dom_Check.l0 : Nat → List (S43) → Int → Int → List (S43) → Bool → Option (Int)
 | 0, _, _, _, _, _ => none
 | k + 1, x20, x21, x22, x192000, x192001 => if x22 < x21 then (if 0 ≤ x22 then (if x22 < (x20.length : Int) then (if ((((q00 x20 x22).f0) == 1) != (x22 == 0)) = true then (some 3) else ((dom_one.f k ((q00 x20 x22).f0) ((q00 x20 x22).f1) ((q00 x20 x22).f2) ((q00 x20 x22).f3) ((q00 x20 x22).f4) ((q00 x20 x22).f5)).bind fun t194 => (if t194 = 0 then (dom_Check.l0 k x20 x21 (wrap64 (x22 + 1)) x192000 x192001) else (some t194)))) else (none)) else (none)) else ((dom_kids.f k x192000 x192001).bind fun t195 => (if t195 = 0 then (dom_Check.l1 k (x192000.length : Int) 0 x192000 x192001) else (some t195)))
def dom_Check.l1 : Nat → Int → Int → List (S43) → Bool → Option (Int)
 | 0, _, _, _, _ => none
 | k + 1, x46, x47, x192000, x192001 => if x47 < x46 then ((dom_up.f k x192000 x192001 x47).bind fun t196 => (if t196 > (x192000.length : Int) then (some 8) else (if t196 > 40 then (some 2) else (dom_Check.l1 k x46 (wrap64 (x47 + 1)) x192000 x192001)))) else (some 0)
end
def dom_Check.f (k : Nat) (l0_0 : List (S43)) (a0_1 : Bool) : Option (Int) := if (l0_0.length : Int) > 200 then (some 2) else (if (l0_0.length : Int) = 0 then (some 3) else (dom_Check.l0 k l0_0 (l0_0.length : Int) 0 l0_0 a0_1))
theorem dom_Check.mono_l : ∀ k, (∀ y0 y1 y2 y3 y4, LeO (dom_Check.l0 k y0 y1 y2 y3 y4) (dom_Check.l0 (k + 1) y0 y1 y2 y3 y4)) ∧ (∀ y0 y1 y2 y3, LeO (dom_Check.l1 k y0 y1 y2 y3) (dom_Check.l1 (k + 1) y0 y1 y2 y3))
 | 0 => ⟨fun _ _ _ _ _ r h => by simp [dom_Check.l0] at h, fun _ _ _ _ r h => by simp [dom_Check.l1] at h⟩
 | k + 1 => by
  obtain ⟨ih0, ih1⟩ := dom_Check.mono_l k
  refine ⟨?_, ?_⟩
  all_goals intros
  all_goals (first | unfold dom_Check.l0 | unfold dom_Check.l1)
  all_goals (repeat' first | with_reducible first | apply ih0 | apply ih1 | apply dom_kids.mono | apply dom_one.mono | apply dom_up.mono | exact LeO.refl _ | exact LeO.none _ | refine LeO.ite ?_ ?_ | refine LeO.bind ?_ (fun _ => ?_) | (first | apply ih0 | apply ih1 | apply dom_kids.mono | apply dom_one.mono | apply dom_up.mono | exact LeO.none _ | refine LeO.ite ?_ ?_ | refine LeO.bind ?_ (fun _ => ?_)))
theorem dom_Check.mono : ∀ a0 a1 k, LeO (dom_Check.f k a0 a1) (dom_Check.f (k + 1) a0 a1) := by
 intro a0 a1 k
 obtain ⟨ih0, ih1⟩ := dom_Check.mono_l k
 unfold dom_Check.f
 repeat' first | with_reducible first | apply ih0 | apply ih1 | apply dom_kids.mono | apply dom_one.mono | apply dom_up.mono | exact LeO.refl _ | exact LeO.none _ | refine LeO.ite ?_ ?_ | refine LeO.bind ?_ (fun _ => ?_) | (first | apply ih0 | apply ih1 | apply dom_kids.mono | apply dom_one.mono | apply dom_up.mono | exact LeO.none _ | refine LeO.ite ?_ ?_ | refine LeO.bind ?_ (fun _ => ?_))
set_option maxHeartbeats 8000000 in
set_option maxRecDepth 100000 in
theorem dom_Check.calls (k : Nat) (A0_0 : Option Addr) (c0_0 : Nat) (l0_0 : List (S43)) (a0_1 : Bool) (r : Int) (w : World) (hr0_0 : Kd.C k43 w A0_0 l0_0.length l0_0) (hc0_0 : l0_0.length ≤ c0_0) (h : dom_Check.f k l0_0 a0_1 = some r) :
 Calls Tryd.prog 52 #[.agg #[.slice A0_0 l0_0.length c0_0, .bool a0_1]] w fun e w' => e = .returned (.int .i64 r) ∧ Below w.heap.size w w' := by
 have hu24 := Tryd.underlying24
 have hu43 := Tryd.underlying43
 have HR0_0 := aS hr0_0
 have HC0_0 := aS hc0_0
 clear hr0_0 hc0_0
 have HB := aS (Below.refl w.heap.size w)
 have H := h; clear h; unfold dom_Check.f at H
 refine iTN (m := 200) (n := l0_0.length) H rfl rfl ?p2 ?n2 <;> clear H
 case' p2 => intro c2b0 c2b1 H
 case' n2 => intro c2b0 c2b1 H; refine iG H ?p5 ?n5 <;> clear H
 case' p5 => intro c5 H; have c5b0 : ((l0_0.length : Int) == 0) = true := beq_iff_eq.mpr c5; have c5b1 : ((l0_0.length : Int) != 0) = false := bne_eq_false_iff_eq.mpr c5; clear c5
 case' n5 => intro c5 H; have c5b0 : ((l0_0.length : Int) == 0) = false := beq_eq_false_iff_ne.mpr c5; have c5b1 : ((l0_0.length : Int) != 0) = true := bne_iff_ne.mpr c5; have c5b2 : ¬ (l0_0 = []) := fun h_ => c5 (by rw [h_]; rfl)
 case p2 =>
  obtain rfl := Option.some.inj H
  go_enter Tryd.func52, Tryd.ntmps52
  go_wp2_with (first | ((with_reducible refine q0c (N := 1) rfl ?_); refine box0 rfl (N := 1) rfl (cs := #[.slice A0_0 l0_0.length c0_0, .bool a0_1]) (t := 24) (by first | (go_simp; done) | (go_simp; rfl)) (by repeat (first | (with_reducible first | exact HB.out | apply bA | apply bN | apply bD) | exact HB.out)) ?_; clear HB; intro gb191 w3 BK191 GW191 HB; have GE191 := GW191; obtain ⟨hczL_0, hczL_1, hfzL_0, hfzL_1⟩ := bk2 BK191.out))
  go_ret
  exact ⟨by first | rfl | (simp [q02, q01] <;> rfl) | (simp [*, q02, q01] <;> rfl), by repeat (first | (with_reducible first | exact HB.out | apply bA | apply bN | apply bD | refine bS ?_ GE191.out) | exact HB.out)⟩
 case p5 =>
  obtain rfl := Option.some.inj H
  go_enter Tryd.func52, Tryd.ntmps52
  go_wp2_with (first | ((with_reducible refine q0c (N := 1) rfl ?_); refine box0 rfl (N := 1) rfl (cs := #[.slice A0_0 l0_0.length c0_0, .bool a0_1]) (t := 24) (by first | (go_simp; done) | (go_simp; rfl)) (by repeat (first | (with_reducible first | exact HB.out | apply bA | apply bN | apply bD) | exact HB.out)) ?_; clear HB; intro gb191 w6 BK191 GW191 HB; have GE191 := GW191; obtain ⟨hczL_0, hczL_1, hfzL_0, hfzL_1⟩ := bk2 BK191.out))
  go_ret
  exact ⟨by first | rfl | (simp [q02, q01] <;> rfl) | (simp [*, q02, q01] <;> rfl), by repeat (first | (with_reducible first | exact HB.out | apply bA | apply bN | apply bD | refine bS ?_ GE191.out) | exact HB.out)⟩
 case n5 =>
  have H' := aS H
  clear H
  go_enter Tryd.func52, Tryd.ntmps52
  go_wp2_with (first | ((with_reducible refine q0c (N := 1) rfl ?_); refine box0 rfl (N := 1) rfl (cs := #[.slice A0_0 l0_0.length c0_0, .bool a0_1]) (t := 24) (by first | (go_simp; done) | (go_simp; rfl)) (by repeat (first | (with_reducible first | exact HB.out | apply bA | apply bN | apply bD) | exact HB.out)) ?_; clear HB; intro gb191 w8 BK191 GW191 HB; have GE191 := GW191; obtain ⟨hczL_0, hczL_1, hfzL_0, hfzL_1⟩ := bk2 BK191.out))
  go_loopg [22] k (fun kq v22 w' => ∃ (x22_1 : Int), v22 = .int .i64 x22_1 ∧ Aside0 (dom_Check.l0 kq l0_0 (l0_0.length : Int) x22_1 l0_0 a0_1 = some r) ∧ Aside0 (kq ≤ k) ∧ Aside0 (w'.heap[gb191]? = some (.cells #[(.slice A0_0 l0_0.length c0_0), .bool a0_1] 24 (0, 0))) ∧ Aside0 (Below w.heap.size w w'))
  case atStart => exact ⟨(0), (by first | rfl | (simp; done) | simp [*]), H', ⟨Nat.le_refl _⟩, ⟨by (with_reducible repeat (first | refine kN ?_ _ | refine kD ?_ | refine kA ?_ _)); exact BK191.out⟩, ⟨by repeat (first | (with_reducible first | exact HB.out | apply bA | apply bN | apply bD | refine bS ?_ GE191.out) | exact HB.out)⟩⟩
  case round =>
   clear H'
   obtain ⟨x22_1, rfl, HA, HK1, BK191, HB⟩ := hrel
   cases gk with
   | zero => exact absurd HA.out (by simp [dom_Check.l0])
   | succ k1 =>
    have H := HA.out
    clear HA
    simp only [dom_Check.l0] at H
    refine iT H ?p10 ?n10 <;> clear H
    case' p10 => intro c10b0 H; refine iLp H ?_; clear H; intro c11b0 H; refine iTp H ?_; clear H; intro c12b0 H; refine iG H ?p13 ?n13 <;> clear H
    case' p13 => intro c13 H; have c13b0 : ((((q00 l0_0 x22_1).f0) == 1) != (x22_1 == 0)) = true := c13
    case' n13 =>
     intro c13 H
     have c13b0 : ((((q00 l0_0 x22_1).f0) == 1) != (x22_1 == 0)) = false := by simpa using c13
     (try (have c13b1 : decide ((((q00 l0_0 x22_1).f0) == 1) = (x22_1 == 0)) = true := by simpa using c13))
     (try (have c13b2 : ((((q00 l0_0 x22_1).f0) == 1) == (x22_1 == 0)) = true := by simpa using c13))
     clear c13
     replace H := iB H
     obtain ⟨t194, A17, H⟩ := H
     obtain ⟨ad192, A192_2, c192_2, A192_5, c192_5, e192, hx192_0, hx192_1, hx192_2, hx192_3, hx192_4, hx192_5, HC192_2, HR192_2, HC192_5, HR192_5, p192, q192⟩ := q0p HB.out HR0_0.out x22_1 (by first | with_reducible assumption | assumption) (by first | with_reducible assumption | assumption)
     cases e192
     refine iE H ?p18 ?n18 <;> clear H
    case' p18 => intro c18b0 c18b1 H
    case' n18 => intro c18 c18b0 c18b1 H
    case' n10 => intro c10b0 H; replace H := iB H; obtain ⟨t195, A27, H⟩ := H; obtain ⟨hczL_0, hczL_1, hfzL_0, hfzL_1⟩ := bk2 BK191.out; refine iE H ?p28 ?n28 <;> clear H
    case' p28 => intro c28b0 c28b1 H
    case' n28 => intro c28 c28b0 c28b1 H
    case p13 =>
     (try (have c13b1 : decide ((((q00 l0_0 x22_1).f0) == 1) = (x22_1 == 0)) = false := by simpa using c13))
     (try (have c13b2 : ((((q00 l0_0 x22_1).f0) == 1) == (x22_1 == 0)) = false := by simpa using c13))
     (try (have c13b3 : ¬ ((((q00 l0_0 x22_1).f0) == 1) = (x22_1 == 0)) := by simpa using c13))
     clear c13
     obtain rfl := Option.some.inj H
     obtain ⟨ad192, A192_2, c192_2, A192_5, c192_5, e192, hx192_0, hx192_1, hx192_2, hx192_3, hx192_4, hx192_5, HC192_2, HR192_2, HC192_5, HR192_5, p192, q192⟩ := q0p HB.out HR0_0.out x22_1 (by first | with_reducible assumption | assumption) (by first | with_reducible assumption | assumption)
     cases e192
     go_wp2_with (first | ((with_reducible refine q0c (N := 4) rfl ?_); refine q0q ?hg (N := 4) ?hd (cs := #[.int .i64 0, .string (⟨#[]⟩ : ByteArray), .slice none 0 0, .string (⟨#[]⟩ : ByteArray), .int .i64 0, .slice none 0 0]) (t := 43) ?hr ?_; (case hd => rfl); (case hg => rfl); (case hr => first | (go_simp; done) | (go_simp; rfl)); intro gb193 hg w14 hbox hb; have n0_ := aS (q08 (g := gb191) (o := .cells #[.slice (some ad192) l0_0.length c0_0, .bool a0_1] 24 (0, 0)) (by (with_reducible repeat (first | refine kN ?_ _ | refine kD ?_ | refine kA ?_ _)); exact BK191.out) hb); have n1_ := aS (q03 (by repeat (first | (with_reducible first | exact HB.out | apply bA | apply bN | apply bD | refine bS ?_ GE191.out) | exact HB.out)) hb); have n2_ := aS (hbox); have n3_ := aS ((by rw [hg]; exact (q0g (by repeat (first | (with_reducible first | exact HB.out | apply bA | apply bN | apply bD | refine bS ?_ GE191.out) | exact HB.out))) : w.heap.size ≤ gb193)); have n4_ := aS ((by rw [hg]; exact (q0g (by repeat (first | (with_reducible first | exact HB.out | apply bA | apply bN | apply bD | refine bS ?_ GE191.out) | exact HB.out))) : w.heap.size ≤ gb193)); have n5_ := aS ((by rw [hg]; exact Nat.ne_of_lt (q1j (g := gb191) (o := .cells #[.slice (some ad192) l0_0.length c0_0, .bool a0_1] 24 (0, 0)) (by (with_reducible repeat (first | refine kN ?_ _ | refine kD ?_ | refine kA ?_ _)); exact BK191.out)) : gb191 ≠ gb193)); have n6_ := aS ((by rw [hg]; exact Nat.ne_of_gt (q1j (g := gb191) (o := .cells #[.slice (some ad192) l0_0.length c0_0, .bool a0_1] 24 (0, 0)) (by (with_reducible repeat (first | refine kN ?_ _ | refine kD ?_ | refine kA ?_ _)); exact BK191.out)) : gb193 ≠ gb191)); clear BK191; clear HB; have BK191 := n0_; have HB := n1_; have BK193 := n2_; have GW193 := n3_; have GE193 := n4_; have NB191_193 := n5_; have NB193_191 := n6_; clear n0_ n1_ n2_ n3_ n4_ n5_ n6_; clear hb hbox hg; have hnb15 := NB193_191.out; have hnc15 := NB191_193.out; obtain ⟨hczL_0, hczL_1, hczL_2, hczL_3, hczL_4, hczL_5, hfzL_0, hfzL_1, hfzL_2, hfzL_3, hfzL_4, hfzL_5⟩ := bk6 BK193.out))
     go_ret
     exact ⟨by first | rfl | (simp [q02, q01] <;> rfl) | (simp [*, q02, q01] <;> rfl), by repeat (first | (with_reducible first | exact HB.out | apply bA | apply bN | apply bD | refine bS ?_ GE191.out | refine bS ?_ GE193.out) | exact HB.out)⟩
    case p18 =>
     have H' := aS H
     clear H
     go_wp2_with (first | ((with_reducible refine q0c (N := 4) rfl ?_); refine q0q ?hg (N := 4) ?hd (cs := #[.int .i64 0, .string (⟨#[]⟩ : ByteArray), .slice none 0 0, .string (⟨#[]⟩ : ByteArray), .int .i64 0, .slice none 0 0]) (t := 43) ?hr ?_; (case hd => rfl); (case hg => rfl); (case hr => first | (go_simp; done) | (go_simp; rfl)); intro gb193 hg w19 hbox hb; have n0_ := aS (q08 (g := gb191) (o := .cells #[.slice (some ad192) l0_0.length c0_0, .bool a0_1] 24 (0, 0)) (by (with_reducible repeat (first | refine kN ?_ _ | refine kD ?_ | refine kA ?_ _)); exact BK191.out) hb); have n1_ := aS (q03 (by repeat (first | (with_reducible first | exact HB.out | apply bA | apply bN | apply bD | refine bS ?_ GE191.out) | exact HB.out)) hb); have n2_ := aS (hbox); have n3_ := aS ((by rw [hg]; exact (q0g (by repeat (first | (with_reducible first | exact HB.out | apply bA | apply bN | apply bD | refine bS ?_ GE191.out) | exact HB.out))) : w.heap.size ≤ gb193)); have n4_ := aS ((by rw [hg]; exact (q0g (by repeat (first | (with_reducible first | exact HB.out | apply bA | apply bN | apply bD | refine bS ?_ GE191.out) | exact HB.out))) : w.heap.size ≤ gb193)); have n5_ := aS ((by rw [hg]; exact Nat.ne_of_lt (q1j (g := gb191) (o := .cells #[.slice (some ad192) l0_0.length c0_0, .bool a0_1] 24 (0, 0)) (by (with_reducible repeat (first | refine kN ?_ _ | refine kD ?_ | refine kA ?_ _)); exact BK191.out)) : gb191 ≠ gb193)); have n6_ := aS ((by rw [hg]; exact Nat.ne_of_gt (q1j (g := gb191) (o := .cells #[.slice (some ad192) l0_0.length c0_0, .bool a0_1] 24 (0, 0)) (by (with_reducible repeat (first | refine kN ?_ _ | refine kD ?_ | refine kA ?_ _)); exact BK191.out)) : gb193 ≠ gb191)); clear BK191; clear HB; have BK191 := n0_; have HB := n1_; have BK193 := n2_; have GW193 := n3_; have GE193 := n4_; have NB191_193 := n5_; have NB193_191 := n6_; clear n0_ n1_ n2_ n3_ n4_ n5_ n6_; clear hb hbox hg; have hnb20 := NB193_191.out; have hnc20 := NB191_193.out; obtain ⟨hczL_0, hczL_1, hczL_2, hczL_3, hczL_4, hczL_5, hfzL_0, hfzL_1, hfzL_2, hfzL_3, hfzL_4, hfzL_5⟩ := bk6 BK193.out) | ((with_reducible refine q06 (f := 100) rfl ?_); refine q0k (some 34) rfl rfl Tryd.func100 (by kernel_rfl) rfl #[.agg #[.int .i64 ((q00 l0_0 x22_1).f0), .string ((q00 l0_0 x22_1).f1), .slice A192_2 ((q00 l0_0 x22_1).f2).length c192_2, .string ((q00 l0_0 x22_1).f3), .int .i64 ((q00 l0_0 x22_1).f4), .slice A192_5 ((q00 l0_0 x22_1).f5).length c192_5]] rfl (by (try simp only [List.map_toArray, List.map_cons, List.map_nil]); first | done | rfl | (simp only [List.length_drop, List.length_take]; rfl)) ?_; (with_reducible refine (dom_one.calls k1 ((q00 l0_0 x22_1).f0) ((q00 l0_0 x22_1).f1) _ _ ((q00 l0_0 x22_1).f2) ((q00 l0_0 x22_1).f3) ((q00 l0_0 x22_1).f4) _ _ ((q00 l0_0 x22_1).f5) t194 _ ?side1 ?side2 ?side3 ?side4 A17.out).mono ?_); (case side1 => exact Kd.C_below HR192_2.out (by repeat (first | (with_reducible first | exact HB.out | apply bA | apply bN | apply bD | refine bS ?_ GE191.out | refine bS ?_ GE193.out) | exact HB.out))); (case side2 => exact HC192_2.out); (case side3 => exact Kd.C_below HR192_5.out (by repeat (first | (with_reducible first | exact HB.out | apply bA | apply bN | apply bD | refine bS ?_ GE191.out | refine bS ?_ GE193.out) | exact HB.out))); (case side4 => exact HC192_5.out); rintro e w22 ⟨rfl, hb⟩; refine ⟨_, rfl, ?_⟩; replace BK191 := aS (q08 (g := gb191) (o := .cells #[.slice (some ad192) l0_0.length c0_0, .bool a0_1] 24 (0, 0)) (by (with_reducible repeat (first | refine kN ?_ _ | refine kD ?_ | refine kA ?_ _)); refine q0u ?_ NB191_193.out _; (with_reducible repeat (first | refine kN ?_ _ | refine kD ?_ | refine kA ?_ _)); refine q0u ?_ NB191_193.out _; (with_reducible repeat (first | refine kN ?_ _ | refine kD ?_ | refine kA ?_ _)); refine q0u ?_ NB191_193.out _; (with_reducible repeat (first | refine kN ?_ _ | refine kD ?_ | refine kA ?_ _)); refine q0u ?_ NB191_193.out _; (with_reducible repeat (first | refine kN ?_ _ | refine kD ?_ | refine kA ?_ _)); refine q0u ?_ NB191_193.out _; (with_reducible repeat (first | refine kN ?_ _ | refine kD ?_ | refine kA ?_ _)); refine q0u ?_ NB191_193.out _; (with_reducible repeat (first | refine kN ?_ _ | refine kD ?_ | refine kA ?_ _)); exact BK191.out) hb); replace BK193 := aS (q08 (g := gb193) (o := .cells #[.int .i64 ((q00 l0_0 x22_1).f0), .string ((q00 l0_0 x22_1).f1), .slice A192_2 ((q00 l0_0 x22_1).f2).length c192_2, .string ((q00 l0_0 x22_1).f3), .int .i64 ((q00 l0_0 x22_1).f4), .slice A192_5 ((q00 l0_0 x22_1).f5).length c192_5] 43 (0, 0)) (by (with_reducible repeat (first | refine kN ?_ _ | refine kD ?_ | refine kA ?_ _)); refine q0t (cs := #[.int .i64 ((q00 l0_0 x22_1).f0), .string ((q00 l0_0 x22_1).f1), .slice A192_2 ((q00 l0_0 x22_1).f2).length c192_2, .string ((q00 l0_0 x22_1).f3), .int .i64 ((q00 l0_0 x22_1).f4), .slice none 0 0]) ?_ 5 _ rfl; (with_reducible repeat (first | refine kN ?_ _ | refine kD ?_ | refine kA ?_ _)); refine q0t (cs := #[.int .i64 ((q00 l0_0 x22_1).f0), .string ((q00 l0_0 x22_1).f1), .slice A192_2 ((q00 l0_0 x22_1).f2).length c192_2, .string ((q00 l0_0 x22_1).f3), .int .i64 0, .slice none 0 0]) ?_ 4 _ rfl; (with_reducible repeat (first | refine kN ?_ _ | refine kD ?_ | refine kA ?_ _)); refine q0t (cs := #[.int .i64 ((q00 l0_0 x22_1).f0), .string ((q00 l0_0 x22_1).f1), .slice A192_2 ((q00 l0_0 x22_1).f2).length c192_2, .string (⟨#[]⟩ : ByteArray), .int .i64 0, .slice none 0 0]) ?_ 3 _ rfl; (with_reducible repeat (first | refine kN ?_ _ | refine kD ?_ | refine kA ?_ _)); refine q0t (cs := #[.int .i64 ((q00 l0_0 x22_1).f0), .string ((q00 l0_0 x22_1).f1), .slice none 0 0, .string (⟨#[]⟩ : ByteArray), .int .i64 0, .slice none 0 0]) ?_ 2 _ rfl; (with_reducible repeat (first | refine kN ?_ _ | refine kD ?_ | refine kA ?_ _)); refine q0t (cs := #[.int .i64 ((q00 l0_0 x22_1).f0), .string (⟨#[]⟩ : ByteArray), .slice none 0 0, .string (⟨#[]⟩ : ByteArray), .int .i64 0, .slice none 0 0]) ?_ 1 _ rfl; (with_reducible repeat (first | refine kN ?_ _ | refine kD ?_ | refine kA ?_ _)); refine q0t (cs := #[.int .i64 0, .string (⟨#[]⟩ : ByteArray), .slice none 0 0, .string (⟨#[]⟩ : ByteArray), .int .i64 0, .slice none 0 0]) ?_ 0 _ rfl; (with_reducible repeat (first | refine kN ?_ _ | refine kD ?_ | refine kA ?_ _)); exact BK193.out) hb); replace HB := aS (q03 (by repeat (first | (with_reducible first | exact HB.out | apply bA | apply bN | apply bD | refine bS ?_ GE191.out | refine bS ?_ GE193.out) | exact HB.out)) hb); (try clear hb); (try clear hb2); (try clear hk); (try clear hi)))
     go_roundg k1
     case measure => have := HK1.out; omega
     case rel => exact ⟨(wrap64 (x22_1 + 1)), (by first | rfl | (simp; done) | simp [*]), H', ⟨by have := HK1.out; omega⟩, ⟨by (with_reducible repeat (first | refine kN ?_ _ | refine kD ?_ | refine kA ?_ _)); exact BK191.out⟩, ⟨by repeat (first | (with_reducible first | exact HB.out | apply bA | apply bN | apply bD | refine bS ?_ GE191.out | refine bS ?_ GE193.out) | exact HB.out)⟩⟩
    case n18 =>
     obtain rfl := Option.some.inj H
     go_wp2_with (first | ((with_reducible refine q0c (N := 4) rfl ?_); refine q0q ?hg (N := 4) ?hd (cs := #[.int .i64 0, .string (⟨#[]⟩ : ByteArray), .slice none 0 0, .string (⟨#[]⟩ : ByteArray), .int .i64 0, .slice none 0 0]) (t := 43) ?hr ?_; (case hd => rfl); (case hg => rfl); (case hr => first | (go_simp; done) | (go_simp; rfl)); intro gb193 hg w23 hbox hb; have n0_ := aS (q08 (g := gb191) (o := .cells #[.slice (some ad192) l0_0.length c0_0, .bool a0_1] 24 (0, 0)) (by (with_reducible repeat (first | refine kN ?_ _ | refine kD ?_ | refine kA ?_ _)); exact BK191.out) hb); have n1_ := aS (q03 (by repeat (first | (with_reducible first | exact HB.out | apply bA | apply bN | apply bD | refine bS ?_ GE191.out) | exact HB.out)) hb); have n2_ := aS (hbox); have n3_ := aS ((by rw [hg]; exact (q0g (by repeat (first | (with_reducible first | exact HB.out | apply bA | apply bN | apply bD | refine bS ?_ GE191.out) | exact HB.out))) : w.heap.size ≤ gb193)); have n4_ := aS ((by rw [hg]; exact (q0g (by repeat (first | (with_reducible first | exact HB.out | apply bA | apply bN | apply bD | refine bS ?_ GE191.out) | exact HB.out))) : w.heap.size ≤ gb193)); have n5_ := aS ((by rw [hg]; exact Nat.ne_of_lt (q1j (g := gb191) (o := .cells #[.slice (some ad192) l0_0.length c0_0, .bool a0_1] 24 (0, 0)) (by (with_reducible repeat (first | refine kN ?_ _ | refine kD ?_ | refine kA ?_ _)); exact BK191.out)) : gb191 ≠ gb193)); have n6_ := aS ((by rw [hg]; exact Nat.ne_of_gt (q1j (g := gb191) (o := .cells #[.slice (some ad192) l0_0.length c0_0, .bool a0_1] 24 (0, 0)) (by (with_reducible repeat (first | refine kN ?_ _ | refine kD ?_ | refine kA ?_ _)); exact BK191.out)) : gb193 ≠ gb191)); clear BK191; clear HB; have BK191 := n0_; have HB := n1_; have BK193 := n2_; have GW193 := n3_; have GE193 := n4_; have NB191_193 := n5_; have NB193_191 := n6_; clear n0_ n1_ n2_ n3_ n4_ n5_ n6_; clear hb hbox hg; have hnb24 := NB193_191.out; have hnc24 := NB191_193.out; obtain ⟨hczL_0, hczL_1, hczL_2, hczL_3, hczL_4, hczL_5, hfzL_0, hfzL_1, hfzL_2, hfzL_3, hfzL_4, hfzL_5⟩ := bk6 BK193.out) | ((with_reducible refine q06 (f := 100) rfl ?_); refine q0k (some 34) rfl rfl Tryd.func100 (by kernel_rfl) rfl #[.agg #[.int .i64 ((q00 l0_0 x22_1).f0), .string ((q00 l0_0 x22_1).f1), .slice A192_2 ((q00 l0_0 x22_1).f2).length c192_2, .string ((q00 l0_0 x22_1).f3), .int .i64 ((q00 l0_0 x22_1).f4), .slice A192_5 ((q00 l0_0 x22_1).f5).length c192_5]] rfl (by (try simp only [List.map_toArray, List.map_cons, List.map_nil]); first | done | rfl | (simp only [List.length_drop, List.length_take]; rfl)) ?_; (with_reducible refine (dom_one.calls k1 ((q00 l0_0 x22_1).f0) ((q00 l0_0 x22_1).f1) _ _ ((q00 l0_0 x22_1).f2) ((q00 l0_0 x22_1).f3) ((q00 l0_0 x22_1).f4) _ _ ((q00 l0_0 x22_1).f5) t194 _ ?side1 ?side2 ?side3 ?side4 A17.out).mono ?_); (case side1 => exact Kd.C_below HR192_2.out (by repeat (first | (with_reducible first | exact HB.out | apply bA | apply bN | apply bD | refine bS ?_ GE191.out | refine bS ?_ GE193.out) | exact HB.out))); (case side2 => exact HC192_2.out); (case side3 => exact Kd.C_below HR192_5.out (by repeat (first | (with_reducible first | exact HB.out | apply bA | apply bN | apply bD | refine bS ?_ GE191.out | refine bS ?_ GE193.out) | exact HB.out))); (case side4 => exact HC192_5.out); rintro e w26 ⟨rfl, hb⟩; refine ⟨_, rfl, ?_⟩; replace BK191 := aS (q08 (g := gb191) (o := .cells #[.slice (some ad192) l0_0.length c0_0, .bool a0_1] 24 (0, 0)) (by (with_reducible repeat (first | refine kN ?_ _ | refine kD ?_ | refine kA ?_ _)); refine q0u ?_ NB191_193.out _; (with_reducible repeat (first | refine kN ?_ _ | refine kD ?_ | refine kA ?_ _)); refine q0u ?_ NB191_193.out _; (with_reducible repeat (first | refine kN ?_ _ | refine kD ?_ | refine kA ?_ _)); refine q0u ?_ NB191_193.out _; (with_reducible repeat (first | refine kN ?_ _ | refine kD ?_ | refine kA ?_ _)); refine q0u ?_ NB191_193.out _; (with_reducible repeat (first | refine kN ?_ _ | refine kD ?_ | refine kA ?_ _)); refine q0u ?_ NB191_193.out _; (with_reducible repeat (first | refine kN ?_ _ | refine kD ?_ | refine kA ?_ _)); refine q0u ?_ NB191_193.out _; (with_reducible repeat (first | refine kN ?_ _ | refine kD ?_ | refine kA ?_ _)); exact BK191.out) hb); replace BK193 := aS (q08 (g := gb193) (o := .cells #[.int .i64 ((q00 l0_0 x22_1).f0), .string ((q00 l0_0 x22_1).f1), .slice A192_2 ((q00 l0_0 x22_1).f2).length c192_2, .string ((q00 l0_0 x22_1).f3), .int .i64 ((q00 l0_0 x22_1).f4), .slice A192_5 ((q00 l0_0 x22_1).f5).length c192_5] 43 (0, 0)) (by (with_reducible repeat (first | refine kN ?_ _ | refine kD ?_ | refine kA ?_ _)); refine q0t (cs := #[.int .i64 ((q00 l0_0 x22_1).f0), .string ((q00 l0_0 x22_1).f1), .slice A192_2 ((q00 l0_0 x22_1).f2).length c192_2, .string ((q00 l0_0 x22_1).f3), .int .i64 ((q00 l0_0 x22_1).f4), .slice none 0 0]) ?_ 5 _ rfl; (with_reducible repeat (first | refine kN ?_ _ | refine kD ?_ | refine kA ?_ _)); refine q0t (cs := #[.int .i64 ((q00 l0_0 x22_1).f0), .string ((q00 l0_0 x22_1).f1), .slice A192_2 ((q00 l0_0 x22_1).f2).length c192_2, .string ((q00 l0_0 x22_1).f3), .int .i64 0, .slice none 0 0]) ?_ 4 _ rfl; (with_reducible repeat (first | refine kN ?_ _ | refine kD ?_ | refine kA ?_ _)); refine q0t (cs := #[.int .i64 ((q00 l0_0 x22_1).f0), .string ((q00 l0_0 x22_1).f1), .slice A192_2 ((q00 l0_0 x22_1).f2).length c192_2, .string (⟨#[]⟩ : ByteArray), .int .i64 0, .slice none 0 0]) ?_ 3 _ rfl; (with_reducible repeat (first | refine kN ?_ _ | refine kD ?_ | refine kA ?_ _)); refine q0t (cs := #[.int .i64 ((q00 l0_0 x22_1).f0), .string ((q00 l0_0 x22_1).f1), .slice none 0 0, .string (⟨#[]⟩ : ByteArray), .int .i64 0, .slice none 0 0]) ?_ 2 _ rfl; (with_reducible repeat (first | refine kN ?_ _ | refine kD ?_ | refine kA ?_ _)); refine q0t (cs := #[.int .i64 ((q00 l0_0 x22_1).f0), .string (⟨#[]⟩ : ByteArray), .slice none 0 0, .string (⟨#[]⟩ : ByteArray), .int .i64 0, .slice none 0 0]) ?_ 1 _ rfl; (with_reducible repeat (first | refine kN ?_ _ | refine kD ?_ | refine kA ?_ _)); refine q0t (cs := #[.int .i64 0, .string (⟨#[]⟩ : ByteArray), .slice none 0 0, .string (⟨#[]⟩ : ByteArray), .int .i64 0, .slice none 0 0]) ?_ 0 _ rfl; (with_reducible repeat (first | refine kN ?_ _ | refine kD ?_ | refine kA ?_ _)); exact BK193.out) hb); replace HB := aS (q03 (by repeat (first | (with_reducible first | exact HB.out | apply bA | apply bN | apply bD | refine bS ?_ GE191.out | refine bS ?_ GE193.out) | exact HB.out)) hb); (try clear hb); (try clear hb2); (try clear hk); (try clear hi)))
     go_ret
     exact ⟨by first | rfl | (simp [q02, q01] <;> rfl) | (simp [*, q02, q01] <;> rfl), by repeat (first | (with_reducible first | exact HB.out | apply bA | apply bN | apply bD | refine bS ?_ GE191.out | refine bS ?_ GE193.out) | exact HB.out)⟩
    case p28 =>
     have H' := aS H
     clear H
     go_wp2_with (first | ((with_reducible refine q06 (f := 101) rfl ?_); refine q0k (some 40) rfl rfl Tryd.func101 (by kernel_rfl) rfl #[.agg #[.slice A0_0 l0_0.length c0_0, .bool a0_1]] rfl (by (try simp only [List.map_toArray, List.map_cons, List.map_nil]); first | done | rfl | (simp only [List.length_drop, List.length_take]; rfl)) ?_; (with_reducible refine (dom_kids.calls k1 _ _ l0_0 a0_1 t195 _ ?side1 ?side2 A27.out).mono ?_); (case side1 => repeat (first | exact (Kd.C_below HR0_0.out HB.out) | (with_reducible refine cA ?_ _) | (with_reducible refine cN ?_ _) | (with_reducible refine cD ?_))); (case side2 => exact HC0_0.out); rintro e w30 ⟨rfl, hb⟩; refine ⟨_, rfl, ?_⟩; replace BK191 := aS (q08 (g := gb191) (o := .cells #[.slice A0_0 l0_0.length c0_0, .bool a0_1] 24 (0, 0)) (by (with_reducible repeat (first | refine kN ?_ _ | refine kD ?_ | refine kA ?_ _)); exact BK191.out) hb); replace HB := aS (q03 (by repeat (first | (with_reducible first | exact HB.out | apply bA | apply bN | apply bD | refine bS ?_ GE191.out) | exact HB.out)) hb); (try clear hb); (try clear hb2); (try clear hk); (try clear hi); obtain ⟨hczL_0, hczL_1, hfzL_0, hfzL_1⟩ := bk2 BK191.out))
     go_loopg [47] k1 (fun kq v47 w' => ∃ (x47_2 : Int), v47 = .int .i64 x47_2 ∧ Aside0 (dom_Check.l1 kq (l0_0.length : Int) x47_2 l0_0 a0_1 = some r) ∧ Aside0 (kq ≤ k1) ∧ Aside0 (w'.heap[gb191]? = some (.cells #[(.slice A0_0 l0_0.length c0_0), .bool a0_1] 24 (0, 0))) ∧ Aside0 (Below w.heap.size w w'))
     case atStart => exact ⟨(0), (by first | rfl | (simp; done) | simp [*]), H', ⟨Nat.le_refl _⟩, ⟨by (with_reducible repeat (first | refine kN ?_ _ | refine kD ?_ | refine kA ?_ _)); exact BK191.out⟩, ⟨by repeat (first | (with_reducible first | exact HB.out | apply bA | apply bN | apply bD | refine bS ?_ GE191.out) | exact HB.out)⟩⟩
     case round =>
      clear H'
      obtain ⟨x47_2, rfl, HA, HK2, BK191, HB⟩ := hrel
      cases gk with
      | zero => exact absurd HA.out (by simp [dom_Check.l1])
      | succ k2 =>
       have H := HA.out
       clear HA
       simp only [dom_Check.l1] at H
       refine iT H ?p32 ?n32 <;> clear H
       case' p32 => intro c32b0 H; replace H := iB H; obtain ⟨t196, A33, H⟩ := H; obtain ⟨hczL_0, hczL_1, hfzL_0, hfzL_1⟩ := bk2 BK191.out; refine iT H ?p34 ?n34 <;> clear H
       case' p34 => intro c34b0 H
       case' n34 => intro c34b0 H; refine iT H ?p38 ?n38 <;> clear H
       case' p38 => intro c38b0 H
       case' n38 => intro c38b0 H
       case' n32 => intro c32b0 H
       case p34 =>
        obtain rfl := Option.some.inj H
        go_wp2_with (first | ((with_reducible refine q06 (f := 102) rfl ?_); refine q0k (some 52) rfl rfl Tryd.func102 (by kernel_rfl) rfl #[.agg #[.slice A0_0 l0_0.length c0_0, .bool a0_1], .int .i64 x47_2] rfl (by (try simp only [List.map_toArray, List.map_cons, List.map_nil]); first | done | rfl | (simp only [List.length_drop, List.length_take]; rfl)) ?_; (with_reducible refine (dom_up.calls k2 _ _ l0_0 a0_1 x47_2 t196 _ ?side1 ?side2 A33.out).mono ?_); (case side1 => repeat (first | exact (Kd.C_below HR0_0.out HB.out) | (with_reducible refine cA ?_ _) | (with_reducible refine cN ?_ _) | (with_reducible refine cD ?_))); (case side2 => exact HC0_0.out); rintro e w36 ⟨rfl, hb⟩; refine ⟨_, rfl, ?_⟩; replace BK191 := aS (q08 (g := gb191) (o := .cells #[.slice A0_0 l0_0.length c0_0, .bool a0_1] 24 (0, 0)) (by (with_reducible repeat (first | refine kN ?_ _ | refine kD ?_ | refine kA ?_ _)); exact BK191.out) hb); replace HB := aS (q03 (by repeat (first | (with_reducible first | exact HB.out | apply bA | apply bN | apply bD | refine bS ?_ GE191.out) | exact HB.out)) hb); (try clear hb); (try clear hb2); (try clear hk); (try clear hi); obtain ⟨hczL_0, hczL_1, hfzL_0, hfzL_1⟩ := bk2 BK191.out))
        go_ret
        exact ⟨by first | rfl | (simp [q02, q01] <;> rfl) | (simp [*, q02, q01] <;> rfl), by repeat (first | (with_reducible first | exact HB.out | apply bA | apply bN | apply bD | refine bS ?_ GE191.out) | exact HB.out)⟩
       case p38 =>
        obtain rfl := Option.some.inj H
        go_wp2_with (first | ((with_reducible refine q06 (f := 102) rfl ?_); refine q0k (some 52) rfl rfl Tryd.func102 (by kernel_rfl) rfl #[.agg #[.slice A0_0 l0_0.length c0_0, .bool a0_1], .int .i64 x47_2] rfl (by (try simp only [List.map_toArray, List.map_cons, List.map_nil]); first | done | rfl | (simp only [List.length_drop, List.length_take]; rfl)) ?_; (with_reducible refine (dom_up.calls k2 _ _ l0_0 a0_1 x47_2 t196 _ ?side1 ?side2 A33.out).mono ?_); (case side1 => repeat (first | exact (Kd.C_below HR0_0.out HB.out) | (with_reducible refine cA ?_ _) | (with_reducible refine cN ?_ _) | (with_reducible refine cD ?_))); (case side2 => exact HC0_0.out); rintro e w40 ⟨rfl, hb⟩; refine ⟨_, rfl, ?_⟩; replace BK191 := aS (q08 (g := gb191) (o := .cells #[.slice A0_0 l0_0.length c0_0, .bool a0_1] 24 (0, 0)) (by (with_reducible repeat (first | refine kN ?_ _ | refine kD ?_ | refine kA ?_ _)); exact BK191.out) hb); replace HB := aS (q03 (by repeat (first | (with_reducible first | exact HB.out | apply bA | apply bN | apply bD | refine bS ?_ GE191.out) | exact HB.out)) hb); (try clear hb); (try clear hb2); (try clear hk); (try clear hi); obtain ⟨hczL_0, hczL_1, hfzL_0, hfzL_1⟩ := bk2 BK191.out))
        go_ret
        exact ⟨by first | rfl | (simp [q02, q01] <;> rfl) | (simp [*, q02, q01] <;> rfl), by repeat (first | (with_reducible first | exact HB.out | apply bA | apply bN | apply bD | refine bS ?_ GE191.out) | exact HB.out)⟩
       case n38 =>
        have H' := aS H
        clear H
        go_wp2_with (first | ((with_reducible refine q06 (f := 102) rfl ?_); refine q0k (some 52) rfl rfl Tryd.func102 (by kernel_rfl) rfl #[.agg #[.slice A0_0 l0_0.length c0_0, .bool a0_1], .int .i64 x47_2] rfl (by (try simp only [List.map_toArray, List.map_cons, List.map_nil]); first | done | rfl | (simp only [List.length_drop, List.length_take]; rfl)) ?_; (with_reducible refine (dom_up.calls k2 _ _ l0_0 a0_1 x47_2 t196 _ ?side1 ?side2 A33.out).mono ?_); (case side1 => repeat (first | exact (Kd.C_below HR0_0.out HB.out) | (with_reducible refine cA ?_ _) | (with_reducible refine cN ?_ _) | (with_reducible refine cD ?_))); (case side2 => exact HC0_0.out); rintro e w43 ⟨rfl, hb⟩; refine ⟨_, rfl, ?_⟩; replace BK191 := aS (q08 (g := gb191) (o := .cells #[.slice A0_0 l0_0.length c0_0, .bool a0_1] 24 (0, 0)) (by (with_reducible repeat (first | refine kN ?_ _ | refine kD ?_ | refine kA ?_ _)); exact BK191.out) hb); replace HB := aS (q03 (by repeat (first | (with_reducible first | exact HB.out | apply bA | apply bN | apply bD | refine bS ?_ GE191.out) | exact HB.out)) hb); (try clear hb); (try clear hb2); (try clear hk); (try clear hi); obtain ⟨hczL_0, hczL_1, hfzL_0, hfzL_1⟩ := bk2 BK191.out))
        go_roundg k2
        case measure => have := HK1.out; have := HK2.out; omega
        case rel => exact ⟨(wrap64 (x47_2 + 1)), (by first | rfl | (simp; done) | simp [*]), H', ⟨by have := HK1.out; have := HK2.out; omega⟩, ⟨by (with_reducible repeat (first | refine kN ?_ _ | refine kD ?_ | refine kA ?_ _)); exact BK191.out⟩, ⟨by repeat (first | (with_reducible first | exact HB.out | apply bA | apply bN | apply bD | refine bS ?_ GE191.out) | exact HB.out)⟩⟩
       case n32 =>
        obtain rfl := Option.some.inj H
        go_wp2
        go_ret
        exact ⟨by first | rfl | (simp [q02, q01] <;> rfl) | (simp [*, q02, q01] <;> rfl), by repeat (first | (with_reducible first | exact HB.out | apply bA | apply bN | apply bD | refine bS ?_ GE191.out) | exact HB.out)⟩
    case n28 =>
     obtain rfl := Option.some.inj H
     go_wp2_with (first | ((with_reducible refine q06 (f := 101) rfl ?_); refine q0k (some 40) rfl rfl Tryd.func101 (by kernel_rfl) rfl #[.agg #[.slice A0_0 l0_0.length c0_0, .bool a0_1]] rfl (by (try simp only [List.map_toArray, List.map_cons, List.map_nil]); first | done | rfl | (simp only [List.length_drop, List.length_take]; rfl)) ?_; (with_reducible refine (dom_kids.calls k1 _ _ l0_0 a0_1 t195 _ ?side1 ?side2 A27.out).mono ?_); (case side1 => repeat (first | exact (Kd.C_below HR0_0.out HB.out) | (with_reducible refine cA ?_ _) | (with_reducible refine cN ?_ _) | (with_reducible refine cD ?_))); (case side2 => exact HC0_0.out); rintro e w46 ⟨rfl, hb⟩; refine ⟨_, rfl, ?_⟩; replace BK191 := aS (q08 (g := gb191) (o := .cells #[.slice A0_0 l0_0.length c0_0, .bool a0_1] 24 (0, 0)) (by (with_reducible repeat (first | refine kN ?_ _ | refine kD ?_ | refine kA ?_ _)); exact BK191.out) hb); replace HB := aS (q03 (by repeat (first | (with_reducible first | exact HB.out | apply bA | apply bN | apply bD | refine bS ?_ GE191.out) | exact HB.out)) hb); (try clear hb); (try clear hb2); (try clear hk); (try clear hi)))
     go_ret
     exact ⟨by first | rfl | (simp [q02, q01] <;> rfl) | (simp [*, q02, q01] <;> rfl), by repeat (first | (with_reducible first | exact HB.out | apply bA | apply bN | apply bD | refine bS ?_ GE191.out) | exact HB.out)⟩
end Go.Proofs.YthjnallbbhnndaaDoor.XWp
namespace Go.Proofs.YthjnallbbhnndaaDoor.Dm
open Go Go.RowKit Go.Proofs.YthjnallbbhnndaaDoor.XWp Go.Proofs.YthjnallbbhnndaaDoorW.PrintWords Go.Proofs.YthjnallbbhnndaaDoorW.PrintLast
def smallB (b : Int) : Bool := decide (97 ≤ b) && decide (b ≤ 122)
def signB (b : Int) : Bool := smallB b || (decide (48 ≤ b) && decide (b ≤ 57)) || decide (b = 45) || decide (b = 95) || decide (b = 58)
def firstB (el : Bool) (b : Int) : Bool := smallB b || (!el && (decide (b = 45) || decide (b = 95)))
def nameB (s : ByteArray) (el : Bool) : Bool := decide (1 ≤ s.size) && (decide (s.size ≤ 40) && ((bytesOf s).all signB && firstB el (bt s 0)))
theorem drop_bt (s : ByteArray) (i : Nat) (h : i < s.size) : (bytesOf s).drop i = bt s (i : Int) :: (bytesOf s).drop (i + 1) := by
  have hl : i < (bytesOf s).length := by rw [bytesOf_length]; exact h
  rw [List.drop_eq_getElem_cons hl]
  congr 1
  have := rd_bytesOf s (i : Int)
  rw [← this]
  simp [rd, List.getD, hl]
theorem j2_eq (k : Nat) (s : ByteArray) (el : Bool) (i b : Int) : clerestoryref1_domName.j2 (k + 1) s el i b (smallB b) = clerestoryref1_domName.j3 k s el i b (smallB b) (!signB b) := by
  rw [clerestoryref1_domName.j2]
  unfold signB
  cases hs : smallB b with
  | true => simp
  | false =>
    rw [if_neg (by decide)]
    by_cases h1 : b ≥ 48
    · rw [if_pos h1]
      by_cases h2 : b ≤ 57
      · rw [if_pos h2]; simp [h1, h2]
      · rw [if_neg h2]
        by_cases h3 : b = 45
        · rw [if_pos h3]; simp [h3]
        · rw [if_neg h3]
          by_cases h4 : b = 95
          · rw [if_pos h4]; simp [h4]
          · rw [if_neg h4]
            by_cases h5 : b = 58
            · simp [h5]
            · rw [show (b != 58) = true from by simp [h5]]; simp [h2, h3, h4, h5]
    · rw [if_neg h1]
      by_cases h3 : b = 45
      · rw [if_pos h3]; simp [h3]
      · rw [if_neg h3]
        by_cases h4 : b = 95
        · rw [if_pos h4]; simp [h4]
        · rw [if_neg h4]
          by_cases h5 : b = 58
          · simp [h5]
          · rw [show (b != 58) = true from by simp [h5]]; simp [h1, h3, h4, h5]
theorem l0_eq (k : Nat) (s : ByteArray) (el : Bool) (i : Nat) (h : i < s.size) : clerestoryref1_domName.l0 (k + 2) s el (i : Int) = clerestoryref1_domName.j3 k s el (i : Int) (bt s (i : Int)) (smallB (bt s (i : Int))) (!signB (bt s (i : Int))) := by
  rw [clerestoryref1_domName.l0, if_pos (by omega), if_pos (by omega), ← j2_eq]
  generalize bt s (i : Int) = b
  by_cases h1 : b ≥ 97
  · rw [if_pos h1, show decide (b ≤ 122) = smallB b from by unfold smallB; simp [h1]]
  · rw [if_neg h1, show false = smallB b from by unfold smallB; simp [h1]]
theorem refname_l0 (s : ByteArray) (el : Bool) (hs : s.size ≤ 1000) (d : Nat) : ∀ (i k : Nat), i + d = s.size → 3 * d < k → 1 ≤ i → clerestoryref1_domName.l0 k s el (i : Int) = some (((bytesOf s).drop i).all signB) := by
  induction d with
  | zero =>
    intro i k h hk _
    obtain ⟨k, rfl⟩ : ∃ q, k = q + 1 := ⟨k - 1, by omega⟩
    rw [clerestoryref1_domName.l0, if_neg (by omega), List.drop_eq_nil_of_le (by rw [bytesOf_length]; omega)]
    rfl
  | succ d ih =>
    intro i k h hk h1
    obtain ⟨k, rfl⟩ : ∃ q, k = q + 1 + 2 := ⟨k - 3, by omega⟩
    rw [l0_eq (k + 1) s el i (by omega), clerestoryref1_domName.j3, drop_bt s i (by omega), List.all_cons]
    cases hb : signB (bt s (i : Int)) with
    | false => rw [if_pos (by decide)]; rfl
    | true =>
      rw [if_neg (by decide), if_neg (by omega), show wrap64 ((i : Int) + 1) = ((i + 1 : Nat) : Int) from by unfold wrap64; omega, ih (i + 1) k (by omega) (by omega) (by omega)]
      rfl
theorem refname_eq (s : ByteArray) (el : Bool) (k : Nat) (hk : 130 < k) : clerestoryref1_domName.f k s el = some (nameB s el) := by
  obtain ⟨k, rfl⟩ : ∃ q, k = q + 1 + 2 + 1 := ⟨k - 4, by omega⟩
  unfold clerestoryref1_domName.f nameB
  by_cases h1 : s.size < 1
  · rw [if_pos (by omega), clerestoryref1_domName.j0, if_pos rfl]
    have : ¬ 1 ≤ s.size := by omega
    simp [this]
  · rw [if_neg (by omega), clerestoryref1_domName.j0]
    by_cases h2 : s.size ≤ 40
    · rw [if_neg (by simp; omega), show (0 : Int) = ((0 : Nat) : Int) from rfl, l0_eq (k + 1) s el 0 (by omega), clerestoryref1_domName.j3]
      have hd := drop_bt s 0 (by omega)
      rw [List.drop_zero] at hd
      rw [hd, List.all_cons, show decide (1 ≤ s.size) = true from decide_eq_true (by omega), show decide (s.size ≤ 40) = true from decide_eq_true h2]
      have hr := refname_l0 s el (by omega) (s.size - 1) 1 k (by omega) (by omega) (Nat.le_refl _)
      rw [show wrap64 (((0 : Nat) : Int) + 1) = ((1 : Nat) : Int) from by unfold wrap64; decide, hr]
      generalize ((bytesOf s).drop (0 + 1)) = t at hr ⊢
      generalize bt s ((0 : Nat) : Int) = b
      unfold firstB
      cases hb : signB b with
      | false => rw [if_pos (by decide)]; simp
      | true =>
        rw [if_neg (by decide), if_pos (by decide)]
        cases hsm : smallB b with
        | true => simp
        | false =>
          rw [if_neg (by decide)]
          cases el with
          | true => simp
          | false =>
            rw [if_neg (by decide)]
            by_cases h3 : b = 45
            · rw [if_pos h3]; simp [h3]
            · rw [if_neg h3]
              by_cases h4 : b = 95
              · rw [if_pos h4]; simp [h4]
              · rw [if_neg h4]; simp [h3, h4]
    · rw [if_pos (by simp; omega)]
      simp [h2]
def signsA : ByteArray := ⟨#[97, 98, 99, 100, 101, 102, 103, 104, 105, 106, 107, 108, 109, 110, 111, 112, 113, 114, 115, 116, 117, 118, 119, 120, 121, 122, 48, 49, 50, 51, 52, 53, 54, 55, 56, 57, 45, 95, 58]⟩
def firstA (el : Bool) : ByteArray := if el = true then signsA.extract 0 26 else signsA.extract 0 26 ++ ⟨#[45, 95]⟩
theorem first_all (el : Bool) : ∀ n : Fin 256, decide (0 ≤ Lib.indexByte (firstA el).data.toList (UInt8.ofNat n.val)) = firstB el (n.val : Int) := by
  cases el <;> decide +kernel
theorem sign_all : ∀ n : Fin 256, (signsA.data.toList).contains (UInt8.ofNat n.val) = signB (n.val : Int) := by decide +kernel
theorem first_eq (el : Bool) (b : Int) (h : 0 ≤ b ∧ b ≤ 255) : decide (0 ≤ Lib.indexByte (firstA el).data.toList (UInt8.ofNat b.toNat)) = firstB el b := by
  have := first_all el ⟨b.toNat, by omega⟩
  rw [show ((⟨b.toNat, by omega⟩ : Fin 256).val : Int) = b from by simp; omega] at this
  exact this
theorem sign_eq (c : UInt8) : (signsA.data.toList).contains c = signB (c.toNat : Int) := by
  have := sign_all ⟨c.toNat, c.toNat_lt⟩
  simpa using this
theorem dropWhile_nil {α : Type} (p : α → Bool) : ∀ l : List α, (l.dropWhile p = [] ↔ ∀ x ∈ l, p x = true)
  | [] => by simp
  | x :: t => by
    rw [List.dropWhile_cons]
    cases h : p x with
    | true => rw [if_pos rfl, dropWhile_nil p t]; simp [h]
    | false => rw [if_neg (by decide)]; simp [h]
theorem trim_nil (l cs : List UInt8) : Lib.trimS l cs = [] ↔ ∀ x ∈ l, cs.contains x = true := by
  unfold Lib.trimS Lib.trimLeftS Lib.trimRightS
  rw [dropWhile_nil]
  constructor
  · intro h x hx
    have e := List.takeWhile_append_dropWhile (p := fun y => cs.contains y) (l := l.reverse)
    have hx' : x ∈ l.reverse := List.mem_reverse.2 hx
    rw [← e] at hx'
    rcases List.mem_append.1 hx' with h1 | h1
    · exact List.all_eq_true.1 (List.all_takeWhile (p := fun y => cs.contains y) (l := l.reverse)) x h1
    · exact h x (List.mem_reverse.2 h1)
  · intro h x hx
    have h1 : x ∈ l.reverse := (List.dropWhile_sublist _).subset (List.mem_reverse.1 hx)
    exact h x (List.mem_reverse.1 h1)
theorem named_eq (s : ByteArray) (el : Bool) (hs : s.size ≤ 140737488355328) : dom_named.f s (firstA el) = some (nameB s el) := by
  unfold dom_named.f nameB
  by_cases h0 : s.toList = []
  · have : s.size = 0 := by
      rw [Lib.toList_data] at h0
      rw [← data_length, h0]; rfl
    have h2 : ¬ 1 ≤ s.size := by omega
    rw [if_pos h0]; simp [h2]
  · have hp : 1 ≤ s.size := by
      rw [Lib.toList_data] at h0
      have := List.length_pos_iff.2 h0
      rw [data_length] at this
      omega
    rw [if_neg h0]
    by_cases h1 : s.size ≤ 40
    · rw [if_pos (by omega), if_pos (by omega)]
      unfold strings_IndexByte.f strings_Trim.f
      simp only [Option.bind_some]
      have hf := first_eq el (bt s 0) (bt_range s 0)
      have ht : (((⟨(Lib.trimS s.data.toList signsA.data.toList).toArray⟩ : ByteArray).toList == ([] : List UInt8))) = (bytesOf s).all signB := by
        rw [Lib.toList_data, Bool.eq_iff_iff]
        simp only [beq_iff_eq]
        rw [trim_nil, List.all_eq_true]
        simp only [sign_eq]
        unfold bytesOf
        simp
      by_cases h2 : Lib.indexByte (firstA el).data.toList (UInt8.ofNat (bt s 0).toNat) ≥ 0
      · rw [if_pos h2, if_pos ⟨hs, by decide, by decide⟩]
        simp only [Option.bind_some]
        rw [decide_eq_true h2] at hf
        rw [← hf]
        have := ht
        unfold signsA at this
        rw [this]
        simp [hp, h1]
      · rw [if_neg h2]
        rw [decide_eq_false h2] at hf
        rw [← hf]
        simp
    · rw [if_neg (by omega)]; simp [h1]
theorem Name_eq (s : ByteArray) (hs : s.size ≤ 140737488355328) : dom_Name.f s = some (nameB s true) := by
  unfold dom_Name.f
  have := named_eq s true hs
  rw [show firstA true = (⟨#[97, 98, 99, 100, 101, 102, 103, 104, 105, 106, 107, 108, 109, 110, 111, 112, 113, 114, 115, 116, 117, 118, 119, 120, 121, 122, 48, 49, 50, 51, 52, 53, 54, 55, 56, 57, 45, 95, 58]⟩ : ByteArray).extract 0 26 from rfl] at this
  rw [if_pos (by decide), if_pos (by decide), this]
  rfl
theorem attrName_eq (s : ByteArray) (hs : s.size ≤ 140737488355328) : dom_attrName.f s = some (nameB s false) := by
  unfold dom_attrName.f
  have := named_eq s false hs
  rw [show firstA false = (⟨#[97, 98, 99, 100, 101, 102, 103, 104, 105, 106, 107, 108, 109, 110, 111, 112, 113, 114, 115, 116, 117, 118, 119, 120, 121, 122, 48, 49, 50, 51, 52, 53, 54, 55, 56, 57, 45, 95, 58]⟩ : ByteArray).extract 0 26 ++ (⟨#[45, 95]⟩ : ByteArray) from rfl] at this
  rw [if_pos (by decide), if_pos (by decide), if_pos (by decide), this]
  rfl
end Go.Proofs.YthjnallbbhnndaaDoor.Dm
namespace Go.Proofs.YthjnallbbhnndaaDoor.Dm
open Go Go.RowKit Go.Proofs.YthjnallbbhnndaaDoor.XWp Go.Proofs.YthjnallbbhnndaaDoorW.PrintWords Go.Proofs.YthjnallbbhnndaaDoorW.PrintLast
def hasA (l : List S122) (nm : ByteArray) : Bool := l.any (fun x => x.f0.toList == nm.toList)
theorem find_has (l : List S122) (nm : ByteArray) (hl : l.length ≤ 1000000) : ∃ r, dom_find.f l nm = some r ∧ decide (r ≥ 0) = hasA l nm := by
  unfold dom_find.f
  rw [if_pos (by omega)]
  exact ⟨_, rfl, Cl.idxOf_any _ l⟩
theorem dropA (l : List S122) (i : Nat) (h : i < l.length) : l.drop i = q0f l (i : Int) :: l.drop (i + 1) := by
  rw [List.drop_eq_getElem_cons h]
  congr 1
  simp [q0f, List.getD, h]
theorem rdA (l : List S122) (i : Nat) (h : i < l.length) : q0f l (i : Int) = l[i] := by simp [q0f, List.getD, h]
theorem attrOf_l0 (l : List S122) (nm : ByteArray) (hl : l.length ≤ 1000000) (d : Nat) : ∀ (i k : Nat), i + d = l.length → d < k → ∃ v, clerestoryref1_AttrOf.l0 k l nm (i : Int) = some (v, (l.drop i).any (fun x => x.f0.toList == nm.toList)) := by
  induction d with
  | zero =>
    intro i k h hk
    obtain ⟨k, rfl⟩ : ∃ q, k = q + 1 := ⟨k - 1, by omega⟩
    rw [clerestoryref1_AttrOf.l0, if_neg (by omega), List.drop_eq_nil_of_le (by omega)]
    exact ⟨_, rfl⟩
  | succ d ih =>
    intro i k h hk
    obtain ⟨k, rfl⟩ : ∃ q, k = q + 1 := ⟨k - 1, by omega⟩
    obtain ⟨v, hv⟩ := ih (i + 1) k (by omega) (by omega)
    rw [clerestoryref1_AttrOf.l0, if_pos (by omega), if_pos (by omega), show wrap64 ((i : Int) + 1) = ((i + 1 : Nat) : Int) from by unfold wrap64; omega, dropA l i (by omega), List.any_cons, hv]
    by_cases hn : (q0f l (i : Int)).f0.toList = nm.toList
    · rw [if_pos hn]; exact ⟨(q0f l (i : Int)).f1, by simp [hn]⟩
    · rw [if_neg hn]; exact ⟨v, by simp [hn]⟩
theorem attrOf_has (l : List S122) (nm : ByteArray) (hl : l.length ≤ 1000000) (k : Nat) (hk : l.length < k) : ∃ v, clerestoryref1_AttrOf.f k l nm = some (v, hasA l nm) := by
  obtain ⟨v, h⟩ := attrOf_l0 l nm hl l.length 0 k (by omega) hk
  exact ⟨v, h⟩
def errA (l : List S122) : Nat → Nat → Int
  | 0, _ => 0
  | d + 1, i => if nameB (q0f l (i : Int)).f0 false = true then (if 400 < (q0f l (i : Int)).f1.size then 2 else if hasA (l.take i) (q0f l (i : Int)).f0 = true then 3 else errA l d (i + 1)) else 3
theorem errA_succ (l : List S122) (d i : Nat) : errA l (d + 1) i = if nameB (q0f l (i : Int)).f0 false = true then (if 400 < (q0f l (i : Int)).f1.size then 2 else if hasA (l.take i) (q0f l (i : Int)).f0 = true then 3 else errA l d (i + 1)) else 3 := rfl
def smallA (l : List S122) : Prop := ∀ x ∈ l, x.f0.size ≤ 140737488355328
theorem attrs_l0 (l : List S122) (hl : l.length ≤ 1000000) (hs : smallA l) (d : Nat) : ∀ (i k : Nat), i + d = l.length → d < k → dom_attrs.l0 k l l (l.length : Int) (i : Int) = some (errA l d i) := by
  induction d with
  | zero =>
    intro i k h hk
    obtain ⟨k, rfl⟩ : ∃ q, k = q + 1 := ⟨k - 1, by omega⟩
    rw [dom_attrs.l0, if_neg (by omega)]
    rfl
  | succ d ih =>
    intro i k h hk
    obtain ⟨k, rfl⟩ : ∃ q, k = q + 1 := ⟨k - 1, by omega⟩
    have hm : q0f l (i : Int) ∈ l := by rw [rdA l i (by omega)]; exact List.getElem_mem _
    obtain ⟨r, hr1, hr2⟩ := find_has (l.take i) (q0f l (i : Int)).f0 (by rw [List.length_take]; omega)
    rw [dom_attrs.l0, if_pos (by omega), if_pos (by omega), if_pos (by omega), attrName_eq _ (hs _ hm), show wrap64 ((i : Int) + 1) = ((i + 1 : Nat) : Int) from by unfold wrap64; omega, ih (i + 1) k (by omega) (by omega), show ((i : Int)).toNat = i from rfl, hr1]
    simp only [Option.bind_some]
    rw [errA_succ]
    cases nameB (q0f l (i : Int)).f0 false with
    | false => rw [if_neg (by decide), if_neg (by decide)]
    | true =>
      rw [if_pos rfl, if_pos rfl]
      by_cases h4 : 400 < (q0f l (i : Int)).f1.size
      · rw [if_pos (by omega), if_pos h4]
      · rw [if_neg (by omega), if_neg h4, if_pos (by omega), ← hr2]
        by_cases h5 : r ≥ 0
        · rw [if_pos h5, if_pos (decide_eq_true h5)]
        · rw [if_neg h5, if_neg (by simpa using h5)]
theorem attrs_eq (l : List S122) (hs : smallA l) (k : Nat) (hk : 12 < k) : dom_attrs.f k l = some (if 12 < l.length then 2 else errA l l.length 0) := by
  unfold dom_attrs.f
  by_cases h : 12 < l.length
  · rw [if_pos (by omega), if_pos h]
  · rw [if_neg (by omega), if_neg h]
    exact attrs_l0 l (by omega) hs l.length 0 k (by omega) (by omega)
def bareB (x : S43) : Bool := (decide (x.f0 = 2) || decide (x.f0 = 5) || decide (x.f1.toList = [])) && ((decide (x.f0 = 2) || decide (x.f2.length = 0)) && ((decide (x.f0 = 3) || decide (x.f0 = 4) || decide (x.f3.toList = [])) && (decide (x.f0 = 1) || decide (x.f0 = 2) || decide (x.f5.length = 0))))
theorem bare_eq (x : S43) (h1 : 1 ≤ x.f0) (h5 : x.f0 ≤ 5) : dom_bare.f x.f0 x.f1 x.f2 x.f3 x.f4 x.f5 = some (bareB x) := by
  obtain ⟨kind, name, attrs, text, parent, kids⟩ := x
  simp only at h1 h5 ⊢
  have hk : kind = 1 ∨ kind = 2 ∨ kind = 3 ∨ kind = 4 ∨ kind = 5 := by omega
  unfold dom_bare.f dom_parent.f bareB
  by_cases hn : name.toList = [] <;> by_cases ha : attrs.length = 0 <;> by_cases ht : text.toList = [] <;> by_cases hd : kids.length = 0 <;> rcases hk with rfl | rfl | rfl | rfl | rfl <;> simp [hn, ha, ht, hd]
def nodeE (x : S43) : Int :=
  if x.f0 < 1 ∨ 5 < x.f0 ∨ bareB x = false then 7 else if x.f0 = 2 ∧ nameB x.f1 true = false then 3 else if 12 < x.f2.length then 2 else if errA x.f2 x.f2.length 0 ≠ 0 then errA x.f2 x.f2.length 0 else if 400 < x.f3.size ∨ 400 < x.f1.size then 2 else 0
theorem j1_eq (x : S43) (hs : smallA x.f2) (k : Nat) (hk : 13 < k) : dom_one.j1 k x.f0 x.f1 x.f2 x.f3 x.f4 x.f5 = some (if 12 < x.f2.length then 2 else if errA x.f2 x.f2.length 0 ≠ 0 then errA x.f2 x.f2.length 0 else if 400 < x.f3.size ∨ 400 < x.f1.size then 2 else 0) := by
  obtain ⟨k, rfl⟩ : ∃ q, k = q + 1 := ⟨k - 1, by omega⟩
  rw [dom_one.j1, attrs_eq x.f2 hs k (by omega)]
  simp only [Option.bind_some]
  by_cases h : 12 < x.f2.length
  · rw [if_pos h, if_pos h, if_neg (by decide)]
  · rw [if_neg h, if_neg h]
    by_cases h2 : errA x.f2 x.f2.length 0 = 0
    · rw [if_pos h2, if_neg (show ¬ errA x.f2 x.f2.length 0 ≠ 0 from fun hh => hh h2)]
      by_cases h3 : 400 < x.f3.size
      · rw [if_pos (by omega), if_pos (.inl h3)]
      · rw [if_neg (by omega)]
        by_cases h4 : 400 < x.f1.size
        · rw [if_pos (by omega), if_pos (.inr h4)]
        · rw [if_neg (by omega), if_neg (by omega)]
    · rw [if_neg h2, if_pos h2]
theorem one_eq (x : S43) (hs : smallA x.f2) (hn : x.f1.size ≤ 140737488355328) (k : Nat) (hk : 14 < k) : dom_one.f k x.f0 x.f1 x.f2 x.f3 x.f4 x.f5 = some (nodeE x) := by
  obtain ⟨k, rfl⟩ : ∃ q, k = q + 1 := ⟨k - 1, by omega⟩
  have hj : ∀ b : Bool, dom_one.j0 (k + 1) b x.f0 x.f1 x.f2 x.f3 x.f4 x.f5 = some (if b = true then 7 else if x.f0 = 2 ∧ nameB x.f1 true = false then 3 else if 12 < x.f2.length then 2 else if errA x.f2 x.f2.length 0 ≠ 0 then errA x.f2 x.f2.length 0 else if 400 < x.f3.size ∨ 400 < x.f1.size then 2 else 0) := by
    intro b
    have hj1 := j1_eq x hs k (by omega)
    generalize (if 12 < x.f2.length then (2 : Int) else if errA x.f2 x.f2.length 0 ≠ 0 then errA x.f2 x.f2.length 0 else if 400 < x.f3.size ∨ 400 < x.f1.size then 2 else 0) = tl at hj1 ⊢
    rw [dom_one.j0, hj1, Name_eq x.f1 hn]
    simp only [Option.bind_some]
    cases b <;> by_cases h2 : x.f0 = 2 <;> cases nameB x.f1 true <;> simp [h2]
  unfold dom_one.f nodeE
  by_cases h1 : x.f0 < 1
  · rw [if_pos h1, hj]; simp [h1]
  · rw [if_neg h1]
    by_cases h5 : x.f0 > 5
    · rw [if_pos h5, hj]; simp [h5]
    · rw [if_neg h5, bare_eq x (by omega) (by omega)]
      simp only [Option.bind_some]
      rw [hj]
      have h5' : ¬ 5 < x.f0 := h5
      cases bareB x <;> simp [h1, h5']
theorem rn_l0 (x : S43) (hl : x.f2.length ≤ 1000) (d : Nat) : ∀ (i k : Nat), i + d = x.f2.length → d + 150 + x.f2.length < k → clerestoryref1_NodeErr.l0 k (i : Int) x.f0 x.f1 x.f2 x.f3 x.f4 x.f5 = some (if errA x.f2 d i ≠ 0 then errA x.f2 d i else if 400 < x.f3.size ∨ 400 < x.f1.size then 2 else 0) := by
  induction d with
  | zero =>
    intro i k h hk
    obtain ⟨k, rfl⟩ : ∃ q, k = q + 1 := ⟨k - 1, by omega⟩
    rw [clerestoryref1_NodeErr.l0, if_neg (by omega)]
    by_cases h3 : 400 < x.f3.size
    · rw [if_pos (by omega)]; simp [errA, h3]
    · rw [if_neg (by omega)]
      by_cases h4 : 400 < x.f1.size
      · rw [if_pos (by omega)]; simp [errA, h3, h4]
      · rw [if_neg (by omega)]; simp [errA, h3, h4]
  | succ d ih =>
    intro i k h hk
    obtain ⟨k, rfl⟩ : ∃ q, k = q + 1 := ⟨k - 1, by omega⟩
    obtain ⟨v, hv⟩ := attrOf_has (x.f2.take i) (q0f x.f2 (i : Int)).f0 (by rw [List.length_take]; omega) k (by rw [List.length_take]; omega)
    have hi := ih (i + 1) k (by omega) (by omega)
    rw [errA_succ]
    generalize (if 400 < x.f3.size ∨ 400 < x.f1.size then (2 : Int) else 0) = tl at hi ⊢
    rw [clerestoryref1_NodeErr.l0, if_pos (by omega), if_pos (by omega), refname_eq _ false k (by omega), show wrap64 ((i : Int) + 1) = ((i + 1 : Nat) : Int) from by unfold wrap64; omega, hi, show ((i : Int)).toNat = i from rfl, hv]
    simp only [Option.bind_some]
    have h4 : ((q0f x.f2 (i : Int)).f1.size : Int) > 400 ↔ 400 < (q0f x.f2 (i : Int)).f1.size := by omega
    have h5 : (i : Int) ≤ (x.f2.length : Int) := by omega
    simp only [h4, h5, if_true]
    cases nameB (q0f x.f2 (i : Int)).f0 false <;> by_cases h6 : 400 < (q0f x.f2 (i : Int)).f1.size <;> cases hasA (x.f2.take i) (q0f x.f2 (i : Int)).f0 <;> simp [h6]
theorem rn_j1 (x : S43) (b : Bool) (k : Nat) (hk : 1200 < k) : clerestoryref1_NodeErr.j1 k b x.f0 x.f1 x.f2 x.f3 x.f4 x.f5 = some (if b = true then 3 else if 12 < x.f2.length then 2 else if errA x.f2 x.f2.length 0 ≠ 0 then errA x.f2 x.f2.length 0 else if 400 < x.f3.size ∨ 400 < x.f1.size then 2 else 0) := by
  obtain ⟨k, rfl⟩ : ∃ q, k = q + 1 := ⟨k - 1, by omega⟩
  rw [clerestoryref1_NodeErr.j1]
  cases b with
  | true => rfl
  | false =>
    by_cases h : 12 < x.f2.length
    · have h' : (x.f2.length : Int) > 12 := by omega
      simp [h, h']
    · have h' : ¬ (x.f2.length : Int) > 12 := by omega
      have := rn_l0 x (by omega) x.f2.length 0 k (by omega) (by omega)
      rw [if_neg (by decide), if_neg h', if_neg (by decide), if_neg h]
      exact this
theorem rn_j0 (x : S43) (b : Bool) (k : Nat) (hk : 1201 < k) : clerestoryref1_NodeErr.j0 k b x.f0 x.f1 x.f2 x.f3 x.f4 x.f5 = some (if b = true then 7 else if x.f0 = 2 ∧ nameB x.f1 true = false then 3 else if 12 < x.f2.length then 2 else if errA x.f2 x.f2.length 0 ≠ 0 then errA x.f2 x.f2.length 0 else if 400 < x.f3.size ∨ 400 < x.f1.size then 2 else 0) := by
  obtain ⟨k, rfl⟩ : ∃ q, k = q + 1 := ⟨k - 1, by omega⟩
  have hj := fun b => rn_j1 x b k (by omega)
  generalize (if 12 < x.f2.length then (2 : Int) else if errA x.f2 x.f2.length 0 ≠ 0 then errA x.f2 x.f2.length 0 else if 400 < x.f3.size ∨ 400 < x.f1.size then 2 else 0) = tl at hj ⊢
  rw [clerestoryref1_NodeErr.j0, refname_eq _ true k (by omega)]
  simp only [Option.bind_some, hj]
  cases b <;> by_cases h2 : x.f0 = 2 <;> cases nameB x.f1 true <;> simp [h2]
theorem nodeErr_eq (x : S43) (k : Nat) (hk : 1201 < k) : clerestoryref1_NodeErr.f k x.f0 x.f1 x.f2 x.f3 x.f4 x.f5 = some (nodeE x) := by
  have hj := fun b => rn_j0 x b k hk
  unfold nodeE
  by_cases h1 : x.f0 < 1
  · unfold clerestoryref1_NodeErr.f clerestoryref1_between.f
    rw [if_neg (by omega)]; simp [h1]
  · by_cases h5 : 5 < x.f0
    · unfold clerestoryref1_NodeErr.f clerestoryref1_between.f
      rw [if_pos (by omega)]
      have : ¬ x.f0 ≤ 5 := by omega
      simp [h5, this]
    · have e : clerestoryref1_NodeErr.f k x.f0 x.f1 x.f2 x.f3 x.f4 x.f5 = clerestoryref1_NodeErr.j0 k (!bareB x) x.f0 x.f1 x.f2 x.f3 x.f4 x.f5 := by
        clear hj
        obtain ⟨kind, name, attrs, text, parent, kids⟩ := x
        simp only at h1 h5 ⊢
        have hk : kind = 1 ∨ kind = 2 ∨ kind = 3 ∨ kind = 4 ∨ kind = 5 := by omega
        unfold clerestoryref1_NodeErr.f clerestoryref1_between.f bareB
        have ea : (attrs.length : Int) > 0 ↔ ¬ attrs.length = 0 := by omega
        have ed : (kids.length : Int) > 0 ↔ ¬ kids.length = 0 := by omega
        simp only [ea, ed]
        by_cases hn : name.toList = [] <;> by_cases ha : attrs.length = 0 <;> by_cases ht : text.toList = [] <;> by_cases hd : kids.length = 0 <;> rcases hk with rfl | rfl | rfl | rfl | rfl <;> simp [hn, ha, ht, hd]
      rw [e, hj]
      cases bareB x <;> simp [h1, h5]
end Go.Proofs.YthjnallbbhnndaaDoor.Dm
namespace Go.Proofs.YthjnallbbhnndaaDoor.Dm
open Go Go.RowKit Go.Proofs.YthjnallbbhnndaaDoor.XWp Go.Proofs.YthjnallbbhnndaaDoorW.PrintWords Go.Proofs.YthjnallbbhnndaaDoorW.PrintLast
def par (ns : List S43) (n : Int) : Int := (q00 ns n).f4
def InR (ns : List S43) : Prop := ∀ i : Int, 0 ≤ i → i < ns.length → par ns i < ns.length
def q1s (ns : List S43) : Nat → Int → Nat
  | 0, _ => 0
  | d + 1, n => if par ns n ≥ 0 then 1 + q1s ns d (par ns n) else 0
theorem deepN_le (ns : List S43) : ∀ d n, q1s ns d n ≤ d
  | 0, _ => Nat.le_refl _
  | d + 1, n => by
    unfold q1s
    have := deepN_le ns d (par ns n)
    split <;> omega
theorem up_l0 (ns : List S43) (q : Bool) (hl : ns.length ≤ 1000) (hr : InR ns) (d : Nat) : ∀ (many : Nat) (n : Int) (k : Nat), many + d = ns.length + 1 → 0 ≤ n → n < ns.length → d < k →
    dom_up.l0 k n (many : Int) ns q = some ((many + q1s ns d n : Nat) : Int) := by
  induction d with
  | zero =>
    intro many n k h h0 h1 hk
    obtain ⟨k, rfl⟩ : ∃ z, k = z + 1 := ⟨k - 1, by omega⟩
    rw [dom_up.l0, if_pos h0, if_pos h1]
    by_cases hp : (q00 ns n).f4 ≥ 0
    · rw [if_pos hp, if_neg (by omega)]; rfl
    · rw [if_neg hp]; rfl
  | succ d ih =>
    intro many n k h h0 h1 hk
    obtain ⟨k, rfl⟩ : ∃ z, k = z + 1 := ⟨k - 1, by omega⟩
    rw [dom_up.l0, if_pos h0, if_pos h1]
    have hrn := hr n h0 h1
    unfold q1s
    by_cases hp : par ns n ≥ 0
    · have hp' : (q00 ns n).f4 ≥ 0 := hp
      rw [if_pos hp', if_pos (by omega), if_pos hp, show wrap64 ((many : Int) + 1) = ((many + 1 : Nat) : Int) from by unfold wrap64; omega, show (q00 ns n).f4 = par ns n from rfl, ih (many + 1) (par ns n) k (by omega) hp hrn (by omega)]
      congr 2
      omega
    · have hp' : ¬ (q00 ns n).f4 ≥ 0 := hp
      rw [if_neg hp', if_neg hp]; rfl
theorem deep_l0 (ns : List S43) (q : Bool) (hl : ns.length ≤ 1000) (hr : InR ns) (d : Nat) : ∀ (many : Nat) (n : Int) (k : Nat), many + d = ns.length → 0 ≤ n → n < ns.length → d < k →
    clerestoryref1_Deep.l0 k n (many : Int) ns q = some (if ns.length < many + q1s ns (d + 1) n then -1 else ((many + q1s ns (d + 1) n : Nat) : Int)) := by
  induction d with
  | zero =>
    intro many n k h h0 h1 hk
    obtain ⟨k, rfl⟩ : ∃ z, k = z + 1 := ⟨k - 1, by omega⟩
    rw [clerestoryref1_Deep.l0, if_pos h0, if_pos h1, show wrap64 ((many : Int) + 1) = ((many + 1 : Nat) : Int) from by unfold wrap64; omega]
    have e : q1s ns (0 + 1) n = if par ns n ≥ 0 then 1 + 0 else 0 := rfl
    rw [e]
    by_cases hp : par ns n ≥ 0
    · have hp' : (q00 ns n).f4 ≥ 0 := hp
      rw [if_pos hp', if_pos (by omega), if_pos hp, if_pos (by omega)]
    · have hp' : ¬ (q00 ns n).f4 ≥ 0 := hp
      rw [if_neg hp', if_neg hp, if_neg (by omega)]; rfl
  | succ d ih =>
    intro many n k h h0 h1 hk
    obtain ⟨k, rfl⟩ : ∃ z, k = z + 1 := ⟨k - 1, by omega⟩
    have hrn := hr n h0 h1
    rw [clerestoryref1_Deep.l0, if_pos h0, if_pos h1, show wrap64 ((many : Int) + 1) = ((many + 1 : Nat) : Int) from by unfold wrap64; omega]
    have e : q1s ns (d + 1 + 1) n = if par ns n ≥ 0 then 1 + q1s ns (d + 1) (par ns n) else 0 := rfl
    rw [e]
    by_cases hp : par ns n ≥ 0
    · have hp' : (q00 ns n).f4 ≥ 0 := hp
      rw [if_pos hp', if_neg (by omega), if_pos hp, show (q00 ns n).f4 = par ns n from rfl, ih (many + 1) (par ns n) k (by omega) hp hrn (by omega), show many + 1 + q1s ns (d + 1) (par ns n) = many + (1 + q1s ns (d + 1) (par ns n)) by omega]
    · have hp' : ¬ (q00 ns n).f4 ≥ 0 := hp
      rw [if_neg hp', if_neg hp, if_neg (by omega)]; rfl
theorem up_eq (ns : List S43) (q : Bool) (hl : ns.length ≤ 1000) (hr : InR ns) (n : Int) (h0 : 0 ≤ n) (h1 : n < ns.length) (k : Nat) (hk : ns.length + 1 < k) : dom_up.f k ns q n = some ((q1s ns (ns.length + 1) n : Nat) : Int) := by
  have := up_l0 ns q hl hr (ns.length + 1) 0 n k (by omega) h0 h1 hk
  rw [Nat.zero_add] at this
  exact this
theorem deep_eq (ns : List S43) (q : Bool) (hl : ns.length ≤ 1000) (hr : InR ns) (n : Int) (h0 : 0 ≤ n) (h1 : n < ns.length) (k : Nat) (hk : ns.length < k) : clerestoryref1_Deep.f k ns q n = some (if ns.length < q1s ns (ns.length + 1) n then -1 else ((q1s ns (ns.length + 1) n : Nat) : Int)) := by
  have := deep_l0 ns q hl hr ns.length 0 n k (by omega) h0 h1 hk
  rw [Nat.zero_add] at this
  exact this
end Go.Proofs.YthjnallbbhnndaaDoor.Dm
namespace Go.Proofs.YthjnallbbhnndaaDoor.Dm
open Go Go.RowKit Go.Proofs.YthjnallbbhnndaaDoor.XWp Go.Proofs.YthjnallbbhnndaaDoorW.PrintWords Go.Proofs.YthjnallbbhnndaaDoorW.PrintLast
def hasK (l : List Int) (x : Int) : Bool := l.any (fun y => decide (y = x))
theorem dropK (o : List Int) (i : Nat) (h : i < o.length) : o.drop i = rd o (i : Int) :: o.drop (i + 1) := by
  rw [List.drop_eq_getElem_cons h]
  congr 1
  simp [rd, List.getD, h]
theorem takeK (o : List Int) (i : Nat) (h : i < o.length) : o.take (i + 1) = o.take i ++ [rd o (i : Int)] := by
  rw [List.take_succ_eq_append_getElem h]
  congr 2
  simp [rd, List.getD, h]
theorem place_l0 (o : List Int) (x : Int) (ho : o.length ≤ 4611686018427387904) (d : Nat) : ∀ (i k : Nat), i + d = o.length → d < k → ∃ r, clerestoryref1_placeIn.l0 k o x (i : Int) = some r ∧ decide (r ≥ 0) = (o.drop i).any (fun y => decide (y = x)) := by
  induction d with
  | zero =>
    intro i k h hk
    obtain ⟨k, rfl⟩ : ∃ q, k = q + 1 := ⟨k - 1, by omega⟩
    rw [clerestoryref1_placeIn.l0, if_neg (by omega), List.drop_eq_nil_of_le (by omega)]
    exact ⟨_, rfl, rfl⟩
  | succ d ih =>
    intro i k h hk
    obtain ⟨k, rfl⟩ : ∃ q, k = q + 1 := ⟨k - 1, by omega⟩
    obtain ⟨r, hi, hd⟩ := ih (i + 1) k (by omega) (by omega)
    rw [clerestoryref1_placeIn.l0, if_pos (by omega), if_pos (by omega), show wrap64 ((i : Int) + 1) = ((i + 1 : Nat) : Int) from by unfold wrap64; omega, hi, dropK o i (by omega), List.any_cons]
    by_cases hx : rd o (i : Int) = x
    · rw [if_pos hx]; exact ⟨_, rfl, by simp [hx]⟩
    · rw [if_neg hx]; exact ⟨r, rfl, by simpa [hx] using hd⟩
theorem place_has (o : List Int) (x : Int) (ho : o.length ≤ 4611686018427387904) (k : Nat) (hk : o.length < k) : ∃ r, clerestoryref1_placeIn.f k o x = some r ∧ decide (r ≥ 0) = hasK o x := by
  obtain ⟨r, h1, h2⟩ := place_l0 o x ho o.length 0 k (by omega) hk
  exact ⟨r, h1, by rw [h2, List.drop_zero]; rfl⟩
def kidL (ns : List S43) (n : Int) : List Int := (q00 ns n).f5
def q1o (ns : List S43) (i : Int) (pre : List Int) (c : Int) : Bool := decide (c < 0) || (decide (c ≥ ns.length) || (decide (par ns c ≠ i) || hasK pre c))
def kidsE (ns : List S43) (i : Int) : List Int → List Int → Int
  | _, [] => 0
  | pre, c :: t => if q1o ns i pre c = true then 3 else if i = 0 ∧ (q00 ns c).f0 = 3 then 7 else kidsE ns i (pre ++ [c]) t
theorem kidsE_cons (ns : List S43) (i : Int) (pre : List Int) (c : Int) (t : List Int) : kidsE ns i pre (c :: t) = if q1o ns i pre c = true then 3 else if i = 0 ∧ (q00 ns c).f0 = 3 then 7 else kidsE ns i (pre ++ [c]) t := rfl
theorem kidBad_range {ns : List S43} {i : Int} {pre : List Int} {c : Int} (h : ¬ q1o ns i pre c = true) : 0 ≤ c ∧ c < ns.length ∧ par ns c = i ∧ hasK pre c = false := by
  unfold q1o at h
  simp only [Bool.or_eq_true, decide_eq_true_eq, not_or, Decidable.not_not, Bool.not_eq_true] at h
  exact ⟨by omega, by omega, h.2.2.1, h.2.2.2⟩
def orE (a b : Int) : Int := if a ≠ 0 then a else b
theorem orE_zero (b : Int) : orE 0 b = b := by simp [orE]
theorem orE_ne {a : Int} (b : Int) (h : a ≠ 0) : orE a b = a := by simp [orE, h]
theorem w1 (i : Nat) (h : i ≤ 4611686018427387904) : wrap64 ((i : Int) + 1) = ((i + 1 : Nat) : Int) := by unfold wrap64; omega
theorem wm (n : Nat) (h : n ≤ 4611686018427387904) : wrap64 ((n : Int) - 1) = (n : Int) - 1 := by unfold wrap64; omega
theorem ref_j4 (ns : List S43) (q : Bool) (i p : Nat) (c : Int) (pre t : List Int) (hp : p ≤ 4611686018427387903) (R : Int) (k : Nat)
    (hi : clerestoryref1_DocErr.l2 k (ns.length : Int) (i : Int) ((p + 1 : Nat) : Int) ns q = some (orE (kidsE ns (i : Int) (pre ++ [c]) t) R)) :
    clerestoryref1_DocErr.j4 (k + 1) (ns.length : Int) (i : Int) (p : Int) c (q1o ns (i : Int) pre c) ns q = some (orE (kidsE ns (i : Int) pre (c :: t)) R) := by
  rw [clerestoryref1_DocErr.j4, kidsE_cons]
  by_cases hb : q1o ns (i : Int) pre c = true
  · rw [if_pos hb, if_pos hb]; rfl
  · rw [if_neg hb, if_neg hb]
    have hr := kidBad_range hb
    by_cases h0 : (i : Int) = 0
    · rw [if_pos h0, if_pos hr.1, if_pos hr.2.1]
      by_cases h3 : (q00 ns c).f0 = 3
      · rw [if_pos h3, if_pos ⟨h0, h3⟩]; rfl
      · rw [if_neg h3, if_neg (fun h => h3 h.2), w1 p (by omega), hi]
    · rw [if_neg h0, if_neg (fun h => h0 h.1), w1 p (by omega), hi]
theorem refkids (ns : List S43) (q : Bool) (hl : ns.length ≤ 1000) (i : Nat) (hi : i < ns.length) (ks : List Int) (hks : (q00 ns (i : Int)).f5 = ks) (hc : ks.length ≤ 4611686018427387900) (B : Nat) (hB : ks.length < B) (R : Int)
    (H : ∀ k, B ≤ k → clerestoryref1_DocErr.l1 k (ns.length : Int) ((i + 1 : Nat) : Int) ns q = some R) (d : Nat) : ∀ (p k : Nat), p + d = ks.length → 2 * d + B < k →
    clerestoryref1_DocErr.l2 k (ns.length : Int) (i : Int) (p : Int) ns q = some (orE (kidsE ns (i : Int) (ks.take p) (ks.drop p)) R) := by
  induction d with
  | zero =>
    intro p k h hk
    obtain ⟨k, rfl⟩ : ∃ z, k = z + 1 := ⟨k - 1, by omega⟩
    rw [clerestoryref1_DocErr.l2, hks, if_pos (by omega), if_pos (by omega), if_neg (by omega), w1 i (by omega), H k (by omega), List.drop_eq_nil_of_le (by omega)]
    rfl
  | succ d ih =>
    intro p k h hk
    obtain ⟨k, rfl⟩ : ∃ z, k = z + 2 := ⟨k - 2, by omega⟩
    have hlt : p < ks.length := by omega
    have hi2 := ih (p + 1) k (by omega) (by omega)
    rw [takeK ks p hlt] at hi2
    obtain ⟨r, hr1, hr2⟩ := place_has (ks.take p) (rd ks (p : Int)) (by rw [List.length_take]; omega) (k + 1) (by rw [List.length_take]; omega)
    rw [clerestoryref1_DocErr.l2, hks, if_pos (by omega), if_pos (by omega), if_pos (by omega), if_pos (by omega), dropK ks p hlt, show ((p : Nat) : Int).toNat = p from rfl]
    obtain ⟨c, hcc⟩ : ∃ c, rd ks (p : Int) = c := ⟨_, rfl⟩
    rw [hcc] at hi2 hr1 ⊢
    rw [hcc] at hr2
    have hj : ∀ b, b = q1o ns (i : Int) (ks.take p) c → clerestoryref1_DocErr.j4 (k + 1) (ns.length : Int) (i : Int) (p : Int) c b ns q = some (orE (kidsE ns (i : Int) (ks.take p) (c :: ks.drop (p + 1))) R) := by
      rintro b rfl
      exact ref_j4 ns q i p c _ _ (by omega) R k hi2
    unfold clerestoryref1_between.f
    rw [wm ns.length (by omega)]
    by_cases c0 : c ≥ 0
    · rw [if_pos c0, Option.bind_some]
      by_cases c1 : c < (ns.length : Int)
      · rw [if_pos (decide_eq_true (by omega)), if_pos c0, if_pos c1]
        by_cases c2 : (q00 ns c).f4 = (i : Int)
        · rw [if_pos c2, if_pos (by omega), hr1, Option.bind_some]
          refine hj _ ?_
          rw [hr2]
          unfold q1o par
          rw [decide_eq_false (by omega), decide_eq_false (by omega), decide_eq_false (by simpa using c2)]
          simp
        · rw [if_neg c2]
          refine hj _ ?_
          unfold q1o par
          rw [decide_eq_true (p := (q00 ns c).f4 ≠ (i : Int)) c2]
          simp
      · rw [if_neg (by rw [decide_eq_false (by omega)]; exact Bool.false_ne_true)]
        refine hj _ ?_
        unfold q1o
        rw [decide_eq_true (p := c ≥ (ns.length : Int)) (by omega)]
        simp
    · rw [if_neg c0, Option.bind_some, if_neg Bool.false_ne_true]
      refine hj _ ?_
      unfold q1o
      rw [decide_eq_true (p := c < 0) (by omega)]
      simp
def kidsL (ns : List S43) : Nat → Nat → Int
  | 0, _ => 0
  | d + 1, i => orE (kidsE ns (i : Int) [] (kidL ns (i : Int))) (kidsL ns d (i + 1))
def parBad (ns : List S43) (i : Int) : Bool := decide (par ns i ≠ -1) && !(decide (0 ≤ par ns i) && (decide (par ns i < ns.length) && hasK (kidL ns (par ns i)) i))
def parsE (ns : List S43) : Nat → Nat → Int
  | 0, _ => if par ns 0 = -1 then 0 else 3
  | d + 1, i => if parBad ns (i : Int) = true then 3 else parsE ns d (i + 1)
def KidsLe (ns : List S43) (M : Nat) : Prop := ∀ i : Int, (kidL ns i).length ≤ M
theorem ref_l1 (ns : List S43) (q : Bool) (hl : ns.length ≤ 1000) (M : Nat) (hM : M ≤ 4611686018427387900) (hk : KidsLe ns M) (B : Nat) (hB : M < B) (R : Int)
    (H : ∀ k, B ≤ k → clerestoryref1_DocErr.l3 k (ns.length : Int) 0 ns q = some R) (d : Nat) : ∀ (i k : Nat), i + d = ns.length → (2 * M + 3) * d + B < k →
    clerestoryref1_DocErr.l1 k (ns.length : Int) (i : Int) ns q = some (orE (kidsL ns d i) R) := by
  induction d with
  | zero =>
    intro i k h hk
    obtain ⟨k, rfl⟩ : ∃ z, k = z + 1 := ⟨k - 1, by omega⟩
    rw [clerestoryref1_DocErr.l1, if_neg (by omega), H k (by omega)]
    rfl
  | succ d ih =>
    intro i k h hk'
    obtain ⟨k, rfl⟩ : ∃ z, k = z + 1 := ⟨k - 1, by omega⟩
    have e : (2 * M + 3) * (d + 1) = (2 * M + 3) * d + (2 * M + 3) := Nat.mul_succ _ _
    have hki := hk (i : Int)
    rw [clerestoryref1_DocErr.l1, if_pos (by omega)]
    have hr := refkids ns q hl i (by omega) (kidL ns (i : Int)) rfl (by omega) ((2 * M + 3) * d + B + 1) (by omega) (orE (kidsL ns d (i + 1)) R) (fun k hk => ih (i + 1) k (by omega) (by omega)) (kidL ns (i : Int)).length 0 k (by omega) (by omega)
    rw [List.take_zero, List.drop_zero] at hr
    rw [show ((0 : Nat) : Int) = 0 from rfl] at hr
    rw [hr]
    rw [show kidsL ns (d + 1) i = orE (kidsE ns (i : Int) [] (kidL ns (i : Int))) (kidsL ns d (i + 1)) from rfl]
    by_cases hz : kidsE ns (i : Int) [] (kidL ns (i : Int)) = 0
    · simp only [hz, orE_zero]
    · rw [orE_ne _ hz, orE_ne _ hz, orE_ne _ hz]
theorem ref_l3 (ns : List S43) (q : Bool) (hl : ns.length ≤ 1000) (h1 : 0 < ns.length) (M : Nat) (hM : M ≤ 4611686018427387900) (hk : KidsLe ns M) (B : Nat) (hB : M < B) (R : Int)
    (H : parsE ns ns.length 0 = 0 → ∀ k, B ≤ k → clerestoryref1_DocErr.l4 k (ns.length : Int) 0 ns q = some R) (d : Nat) : ∀ (i k : Nat), i + d = ns.length → parsE ns d i = parsE ns ns.length 0 → d + B < k →
    clerestoryref1_DocErr.l3 k (ns.length : Int) (i : Int) ns q = some (orE (parsE ns d i) R) := by
  induction d with
  | zero =>
    intro i k h hp hk
    obtain ⟨k, rfl⟩ : ∃ z, k = z + 1 := ⟨k - 1, by omega⟩
    rw [clerestoryref1_DocErr.l3, if_neg (by omega), if_pos (by omega)]
    by_cases c : (q00 ns 0).f4 = -1
    · have e : parsE ns 0 i = 0 := by unfold parsE par; rw [if_pos c]
      rw [if_pos c, e, orE_zero]
      exact H (by rw [← hp, e]) k (by omega)
    · have e : parsE ns 0 i = 3 := by unfold parsE par; rw [if_neg c]
      rw [if_neg c, e]
      rfl
  | succ d ih =>
    intro i k h hp hk'
    obtain ⟨k, rfl⟩ : ∃ z, k = z + 1 := ⟨k - 1, by omega⟩
    have e0 : parsE ns (d + 1) i = if parBad ns (i : Int) = true then 3 else parsE ns d (i + 1) := rfl
    rw [clerestoryref1_DocErr.l3, if_pos (by omega), if_pos (by omega), if_pos (by omega), w1 i (by omega), wm ns.length (by omega)]
    have good : parBad ns (i : Int) = false → clerestoryref1_DocErr.l3 k (ns.length : Int) ((i + 1 : Nat) : Int) ns q = some (orE (parsE ns (d + 1) i) R) := by
      intro hb
      rw [e0, if_neg (by rw [hb]; exact Bool.false_ne_true)] at hp ⊢
      exact ih (i + 1) k (by omega) hp (by omega)
    have bad : parBad ns (i : Int) = true → some (3 : Int) = some (orE (parsE ns (d + 1) i) R) := by
      intro hb
      rw [e0, if_pos hb]
      rfl
    show (if par ns (i : Int) = -1 then _ else _) = _
    by_cases c : par ns (i : Int) = -1
    · rw [if_pos c]
      exact good (by unfold parBad; rw [c]; rfl)
    · rw [if_neg c]
      unfold clerestoryref1_between.f
      show ((if par ns (i : Int) ≥ 0 then some (decide (par ns (i : Int) ≤ (ns.length : Int) - 1)) else some false).bind fun t143 => (if t143 = true then (if 0 ≤ par ns (i : Int) then (if par ns (i : Int) < (ns.length : Int) then ((clerestoryref1_placeIn.f k (kidL ns (par ns (i : Int))) (i : Int)).bind fun t145 => (if t145 < 0 then (some 3) else (clerestoryref1_DocErr.l3 k (ns.length : Int) ((i + 1 : Nat) : Int) ns q))) else (none)) else (none)) else (some 3))) = _
      by_cases c0 : par ns (i : Int) ≥ 0
      · rw [if_pos c0, Option.bind_some]
        by_cases c1 : par ns (i : Int) < (ns.length : Int)
        · rw [if_pos (decide_eq_true (by omega)), if_pos c0, if_pos c1]
          have hki := hk (par ns (i : Int))
          obtain ⟨r, hr1, hr2⟩ := place_has (kidL ns (par ns (i : Int))) (i : Int) (by omega) k (by omega)
          rw [hr1, Option.bind_some]
          have hpb : parBad ns (i : Int) = !(hasK (kidL ns (par ns (i : Int))) (i : Int)) := by
            unfold parBad
            rw [decide_eq_true c, decide_eq_true (p := 0 ≤ par ns (i : Int)) c0, decide_eq_true c1]
            simp
          by_cases c3 : r < 0
          · rw [if_pos c3]
            exact bad (by rw [hpb, ← hr2, decide_eq_false (by omega)]; rfl)
          · rw [if_neg c3]
            exact good (by rw [hpb, ← hr2, decide_eq_true (by omega)]; rfl)
        · rw [if_neg (by rw [decide_eq_false (by omega)]; exact Bool.false_ne_true)]
          exact bad (by unfold parBad; rw [decide_eq_true c, decide_eq_false c1]; simp)
      · rw [if_neg c0, Option.bind_some, if_neg Bool.false_ne_true]
        exact bad (by unfold parBad; rw [decide_eq_true c, decide_eq_false (p := 0 ≤ par ns (i : Int)) c0]; simp)
end Go.Proofs.YthjnallbbhnndaaDoor.Dm
namespace Go.Proofs.YthjnallbbhnndaaDoor.Dm
open Go Go.RowKit Go.Proofs.YthjnallbbhnndaaDoor.XWp Go.Proofs.YthjnallbbhnndaaDoorW.PrintWords Go.Proofs.YthjnallbbhnndaaDoorW.PrintLast
theorem seen_set (S : List Bool) (c x : Int) (hc : 0 ≤ c) (hc' : c < S.length) (hx : 0 ≤ x) : (rdOf false (S.set c.toNat true) x = true) ↔ (x = c ∨ rdOf false S x = true) := by
  unfold rdOf
  simp only [List.getD_eq_getElem?_getD, List.getElem?_set]
  by_cases h : x = c
  · subst h
    simp [show x.toNat < S.length by omega]
  · rw [if_neg (by omega)]
    simp [h]
theorem hasK_snoc (l : List Int) (c x : Int) : hasK (l ++ [c]) x = true ↔ (x = c ∨ hasK l x = true) := by
  unfold hasK
  simp only [List.any_append, List.any_cons, List.any_nil, Bool.or_false, Bool.or_eq_true, decide_eq_true_eq]
  constructor
  · rintro (h | h)
    · exact .inr h
    · exact .inl h.symm
  · rintro (h | h)
    · exact .inr h.symm
    · exact .inl h
def Ahead (ns : List S43) (i : Nat) : Prop := ∀ j : Nat, j < i → ∀ c, hasK (kidL ns (j : Int)) c = true → 0 ≤ c ∧ c < ns.length ∧ par ns c = (j : Int)
def Seen (ns : List S43) (S : List Bool) (i : Nat) (pre : List Int) : Prop := S.length = ns.length ∧ ∀ c : Int, 0 ≤ c → c < ns.length → (rdOf false S c = true ↔ ((∃ j : Nat, j < i ∧ hasK (kidL ns (j : Int)) c = true) ∨ hasK pre c = true))
theorem seen_same {ns : List S43} {S : List Bool} {i : Nat} {pre : List Int} (hs : Seen ns S i pre) (ha : Ahead ns i) {c : Int} (h0 : 0 ≤ c) (h1 : c < ns.length) (hp : par ns c = (i : Int)) : rdOf false S c = hasK pre c := by
  have h := hs.2 c h0 h1
  cases hb : hasK pre c
  · cases hr : rdOf false S c
    · rfl
    · exfalso
      rcases h.1 hr with ⟨j, hj, hk⟩ | hk
      · have := (ha j hj c hk).2.2
        omega
      · rw [hb] at hk
        cases hk
  · exact h.2 (.inr hb)
theorem kidsE_ok {ns : List S43} {i : Int} : ∀ {l pre : List Int}, kidsE ns i pre l = 0 → ∀ c ∈ l, 0 ≤ c ∧ c < ns.length ∧ par ns c = i
  | [], _, _, c, hc => by simp at hc
  | x :: t, pre, h, c, hc => by
    rw [kidsE_cons] at h
    by_cases hb : q1o ns i pre x = true
    · rw [if_pos hb] at h; cases h
    · rw [if_neg hb] at h
      have hr := kidBad_range hb
      by_cases h7 : i = 0 ∧ (q00 ns x).f0 = 3
      · rw [if_pos h7] at h; cases h
      · rw [if_neg h7] at h
        rcases List.mem_cons.1 hc with rfl | hc
        · exact ⟨hr.1, hr.2.1, hr.2.2.1⟩
        · exact kidsE_ok h c hc
theorem prog_j2 (ns : List S43) (q : Bool) (i p : Nat) (c : Int) (pre t ks : List Int) (S : List Bool) (hS : S.length = ns.length) (len : Int) (hp : p ≤ 4611686018427387903) (R : Int) (k : Nat)
    (hi : ¬ q1o ns (i : Int) pre c = true → ¬ ((i : Int) = 0 ∧ (q00 ns c).f0 = 3) → dom_kids.l1 k (S.set c.toNat true) (i : Int) ns (ns.length : Int) (i : Int) ks len ((p + 1 : Nat) : Int) ns q = some (orE (kidsE ns (i : Int) (pre ++ [c]) t) R)) :
    dom_kids.j2 (k + 1) S (i : Int) c ns (ns.length : Int) (i : Int) ks len (p : Int) (q1o ns (i : Int) pre c) ns q = some (orE (kidsE ns (i : Int) pre (c :: t)) R) := by
  rw [dom_kids.j2, kidsE_cons]
  by_cases hb : q1o ns (i : Int) pre c = true
  · rw [if_pos hb, if_pos hb]; rfl
  · rw [if_neg hb, if_neg hb]
    have hr := kidBad_range hb
    by_cases h0 : (i : Int) = 0
    · rw [if_pos h0, if_pos hr.1, if_pos hr.2.1]
      by_cases h3 : (q00 ns c).f0 = 3
      · rw [if_pos h3, if_pos ⟨h0, h3⟩]; rfl
      · rw [if_neg h3, if_pos (by rw [hS]; exact hr.2.1), if_neg (fun h => h3 h.2), w1 p (by omega), hi hb (fun h => h3 h.2)]
    · rw [if_neg h0, if_pos hr.1, if_pos (by rw [hS]; exact hr.2.1), if_neg (fun h => h0 h.1), w1 p (by omega), hi hb (fun h => h0 h.1)]
theorem prog_l1 (ns : List S43) (q : Bool) (hl : ns.length ≤ 1000) (i : Nat) (hi : i < ns.length) (ha : Ahead ns i) (ks : List Int) (hks : kidL ns (i : Int) = ks) (hc : ks.length ≤ 4611686018427387900) (B : Nat) (R : Int)
    (H : kidsE ns (i : Int) [] ks = 0 → ∀ S, Seen ns S (i + 1) [] → ∀ k, B ≤ k → dom_kids.l0 k S ns (ns.length : Int) ((i + 1 : Nat) : Int) ns q = some R) (d : Nat) : ∀ (p k : Nat) (S : List Bool), p + d = ks.length → Seen ns S i (ks.take p) →
    kidsE ns (i : Int) (ks.take p) (ks.drop p) = kidsE ns (i : Int) [] ks → 2 * d + B < k →
    dom_kids.l1 k S (i : Int) ns (ns.length : Int) (i : Int) ks (ks.length : Int) (p : Int) ns q = some (orE (kidsE ns (i : Int) (ks.take p) (ks.drop p)) R) := by
  induction d with
  | zero =>
    intro p k S h hs he hk
    obtain ⟨k, rfl⟩ : ∃ z, k = z + 1 := ⟨k - 1, by omega⟩
    rw [List.drop_eq_nil_of_le (by omega)] at he
    have he0 : kidsE ns (i : Int) [] ks = 0 := he.symm
    rw [List.take_of_length_le (by omega)] at hs
    rw [dom_kids.l1, if_neg (by omega), w1 i (by omega), List.drop_eq_nil_of_le (by omega)]
    refine (H he0 S ⟨hs.1, fun c h0 h1 => (hs.2 c h0 h1).trans ⟨?_, ?_⟩⟩ k (by omega)).trans rfl
    · rintro (⟨j, hj, hb⟩ | hb)
      · exact .inl ⟨j, by omega, hb⟩
      · exact .inl ⟨i, by omega, by rw [hks]; exact hb⟩
    · rintro (⟨j, hj, hb⟩ | hb)
      · by_cases e : j = i
        · subst e
          rw [hks] at hb
          exact .inr hb
        · exact .inl ⟨j, by omega, hb⟩
      · cases hb
  | succ d ih =>
    intro p k S h hs he hk
    obtain ⟨k, rfl⟩ : ∃ z, k = z + 2 := ⟨k - 2, by omega⟩
    have hlt : p < ks.length := by omega
    rw [dom_kids.l1, if_pos (by omega), if_pos (by omega), if_pos (by omega), dropK ks p hlt]
    rw [dropK ks p hlt] at he
    have ih' := ih (p + 1) k
    rw [takeK ks p hlt] at ih'
    obtain ⟨c, hcc⟩ : ∃ c, rd ks (p : Int) = c := ⟨_, rfl⟩
    rw [hcc] at ih' he ⊢
    have hj : ∀ b, b = q1o ns (i : Int) (ks.take p) c → dom_kids.j2 (k + 1) S (i : Int) c ns (ns.length : Int) (i : Int) ks (ks.length : Int) (p : Int) b ns q = some (orE (kidsE ns (i : Int) (ks.take p) (c :: ks.drop (p + 1))) R) := by
      rintro b rfl
      refine prog_j2 ns q i p c _ _ ks S hs.1 _ (by omega) R k fun hb h7 => ?_
      have hr := kidBad_range hb
      refine ih' (S.set c.toNat true) (by omega) ⟨by rw [List.length_set]; exact hs.1, fun x h0 h1 => ?_⟩ ?_ (by omega)
      · rw [seen_set S c x hr.1 (by rw [hs.1]; exact hr.2.1) h0, hs.2 x h0 h1, hasK_snoc]
        constructor
        · rintro (hx | hx | hx)
          · exact .inr (.inl hx)
          · exact .inl hx
          · exact .inr (.inr hx)
        · rintro (hx | hx | hx)
          · exact .inr (.inl hx)
          · exact .inl hx
          · exact .inr (.inr hx)
      · rw [kidsE_cons, if_neg hb, if_neg h7] at he
        exact he
    by_cases c0 : c < 0
    · rw [if_pos c0]
      refine hj _ ?_
      unfold q1o
      rw [decide_eq_true c0]
      simp
    rw [if_neg c0]
    by_cases c1 : c ≥ (ns.length : Int)
    · rw [if_pos (by rw [hs.1]; exact c1)]
      refine hj _ ?_
      unfold q1o
      rw [decide_eq_true c1]
      simp
    rw [if_neg (by rw [hs.1]; exact c1), if_pos (by omega), if_pos (by omega)]
    by_cases c2 : (q00 ns c).f4 = (i : Int)
    · rw [if_pos c2, if_pos (by rw [hs.1]; omega)]
      refine hj _ ?_
      rw [seen_same hs ha (by omega) (by omega) c2]
      unfold q1o par
      rw [decide_eq_false c0, decide_eq_false c1, decide_eq_false (by simpa using c2)]
      simp
    · rw [if_neg c2]
      refine hj _ ?_
      unfold q1o par
      rw [decide_eq_true (p := (q00 ns c).f4 ≠ (i : Int)) c2]
      simp
theorem prog_l2 (ns : List S43) (q : Bool) (hl : ns.length ≤ 1000) (h1 : 0 < ns.length) (ha : Ahead ns ns.length) (S : List Bool) (hs : Seen ns S ns.length []) (d : Nat) : ∀ (i k : Nat), i + d = ns.length → d < k →
    dom_kids.l2 k S ns (ns.length : Int) (i : Int) ns q = some (parsE ns d i) := by
  induction d with
  | zero =>
    intro i k h hk
    obtain ⟨k, rfl⟩ : ∃ z, k = z + 1 := ⟨k - 1, by omega⟩
    rw [dom_kids.l2, if_neg (by omega), if_pos (by omega)]
    unfold parsE par
    split <;> rfl
  | succ d ih =>
    intro i k h hk
    obtain ⟨k, rfl⟩ : ∃ z, k = z + 1 := ⟨k - 1, by omega⟩
    rw [dom_kids.l2, if_pos (by omega), if_pos (by omega), if_pos (by omega), w1 i (by omega), ih (i + 1) k (by omega) (by omega)]
    rw [show parsE ns (d + 1) i = if parBad ns (i : Int) = true then 3 else parsE ns d (i + 1) from rfl]
    show (if par ns (i : Int) = -1 then _ else _) = _
    by_cases c : par ns (i : Int) = -1
    · rw [if_pos c, if_neg (by unfold parBad; rw [c]; simp)]
    · rw [if_neg c, if_pos (by rw [hs.1]; omega)]
      have hh := hs.2 (i : Int) (by omega) (by omega)
      by_cases hr : rdOf false S (i : Int) = true
      · rw [if_pos hr]
        rcases hh.1 hr with ⟨j, hj, hk⟩ | hk
        · have hp := (ha j hj (i : Int) hk).2.2
          rw [if_neg]
          unfold parBad
          rw [hp, hk, decide_eq_true (p := 0 ≤ ((j : Nat) : Int)) (by omega), decide_eq_true (p := ((j : Nat) : Int) < (ns.length : Int)) (by omega)]
          simp
        · cases hk
      · rw [if_neg hr, if_pos]
        unfold parBad
        rw [decide_eq_true c, Bool.true_and]
        by_cases c0 : 0 ≤ par ns (i : Int)
        · by_cases c1 : par ns (i : Int) < (ns.length : Int)
          · cases hb : hasK (kidL ns (par ns (i : Int))) (i : Int)
            · simp
            · exfalso
              refine hr (hh.2 (.inl ⟨(par ns (i : Int)).toNat, by omega, ?_⟩))
              rw [show (((par ns (i : Int)).toNat : Nat) : Int) = par ns (i : Int) by omega]
              exact hb
          · rw [decide_eq_false c1]; simp
        · rw [decide_eq_false c0]; simp
theorem prog_l0 (ns : List S43) (q : Bool) (hl : ns.length ≤ 1000) (h1 : 0 < ns.length) (M : Nat) (hM : M ≤ 4611686018427387900) (hk : KidsLe ns M) (d : Nat) : ∀ (i k : Nat) (S : List Bool), i + d = ns.length → Seen ns S i [] → Ahead ns i → (2 * M + 3) * d + ns.length + 1 < k →
    dom_kids.l0 k S ns (ns.length : Int) (i : Int) ns q = some (orE (kidsL ns d i) (parsE ns ns.length 0)) := by
  induction d with
  | zero =>
    intro i k S h hs ha hk
    obtain ⟨k, rfl⟩ : ∃ z, k = z + 1 := ⟨k - 1, by omega⟩
    obtain rfl : i = ns.length := by omega
    rw [dom_kids.l0, if_neg (by omega)]
    exact prog_l2 ns q hl h1 ha S hs ns.length 0 k (by omega) (by omega)
  | succ d ih =>
    intro i k S h hs ha hk'
    obtain ⟨k, rfl⟩ : ∃ z, k = z + 1 := ⟨k - 1, by omega⟩
    have e : (2 * M + 3) * (d + 1) = (2 * M + 3) * d + (2 * M + 3) := Nat.mul_succ _ _
    have hki := hk (i : Int)
    rw [dom_kids.l0, if_pos (by omega), if_pos (by omega), if_pos (by omega)]
    have hr := prog_l1 ns q hl i (by omega) ha (kidL ns (i : Int)) rfl (by omega) ((2 * M + 3) * d + ns.length + 2) (orE (kidsL ns d (i + 1)) (parsE ns ns.length 0)) (fun he S hs k hk => ih (i + 1) k S (by omega) hs (fun j hj c hc => by
        by_cases e : j = i
        · subst e
          unfold hasK at hc
          obtain ⟨y, hy, hyc⟩ := List.any_eq_true.1 hc
          obtain rfl := of_decide_eq_true hyc
          exact kidsE_ok he y hy
        · exact ha j (by omega) c hc) (by omega)) (kidL ns (i : Int)).length 0 k S (by omega) hs rfl (by omega)
    rw [List.take_zero, List.drop_zero, show ((0 : Nat) : Int) = 0 from rfl] at hr
    refine hr.trans ?_
    rw [show kidsL ns (d + 1) i = orE (kidsE ns (i : Int) [] (kidL ns (i : Int))) (kidsL ns d (i + 1)) from rfl]
    by_cases hz : kidsE ns (i : Int) [] (kidL ns (i : Int)) = 0
    · simp only [hz, orE_zero]
    · rw [orE_ne _ hz, orE_ne _ hz, orE_ne _ hz]
def kidsAll (ns : List S43) : Int := orE (kidsL ns ns.length 0) (parsE ns ns.length 0)
theorem kids_eq (ns : List S43) (q : Bool) (hl : ns.length ≤ 1000) (h1 : 0 < ns.length) (M : Nat) (hM : M ≤ 4611686018427387900) (hk : KidsLe ns M) (k : Nat) (hk' : (2 * M + 3) * ns.length + ns.length + 1 < k) :
    dom_kids.f k ns q = some (kidsAll ns) := by
  unfold dom_kids.f
  rw [if_pos (by omega), if_pos (by omega)]
  refine (prog_l0 ns q hl h1 M hM hk ns.length 0 k _ (by omega) ⟨by simp, fun c h0 h1 => ?_⟩ (fun j hj => by omega) hk').trans rfl
  have e : rdOf false (List.replicate ((ns.length : Int) : Int).toNat false) c = false := by
    unfold rdOf
    simp [List.getD_eq_getElem?_getD, List.getElem?_replicate]
    split <;> rfl
  rw [e]
  constructor
  · intro h; cases h
  · rintro (⟨j, hj, _⟩ | h)
    · omega
    · cases h
end Go.Proofs.YthjnallbbhnndaaDoor.Dm
namespace Go.Proofs.YthjnallbbhnndaaDoor.Dm
open Go Go.RowKit Go.Proofs.YthjnallbbhnndaaDoor.XWp Go.Proofs.YthjnallbbhnndaaDoorW.PrintWords Go.Proofs.YthjnallbbhnndaaDoorW.PrintLast
def rootBad (ns : List S43) (i : Nat) : Bool := decide ((q00 ns (i : Int)).f0 = 1) != decide (i = 0)
def nodesE (ns : List S43) : Nat → Nat → Int
  | 0, _ => 0
  | d + 1, i => if rootBad ns i = true then 3 else orE (nodeE (q00 ns (i : Int))) (nodesE ns d (i + 1))
theorem nodesE_succ (ns : List S43) (d i : Nat) : nodesE ns (d + 1) i = if rootBad ns i = true then 3 else orE (nodeE (q00 ns (i : Int))) (nodesE ns d (i + 1)) := rfl
def q0m (ns : List S43) (i : Int) : Nat := q1s ns (ns.length + 1) i
def upsE (ns : List S43) : Nat → Nat → Int
  | 0, _ => 0
  | d + 1, i => if ns.length < q0m ns (i : Int) then 8 else if 40 < q0m ns (i : Int) then 2 else upsE ns d (i + 1)
theorem upsE_succ (ns : List S43) (d i : Nat) : upsE ns (d + 1) i = if ns.length < q0m ns (i : Int) then 8 else if 40 < q0m ns (i : Int) then 2 else upsE ns d (i + 1) := rfl
def docE (ns : List S43) : Int :=
  if 200 < ns.length then 2 else if ns.length = 0 then 3 else orE (nodesE ns ns.length 0) (orE (kidsAll ns) (upsE ns ns.length 0))
def SmallN (ns : List S43) : Prop := ∀ i : Int, smallA (q00 ns i).f2 ∧ (q00 ns i).f1.size ≤ 140737488355328
theorem parsE_ok {ns : List S43} : ∀ {d i : Nat}, parsE ns d i = 0 → par ns 0 = -1 ∧ ∀ j : Nat, i ≤ j → j < i + d → parBad ns (j : Int) = false
  | 0, i, h => by
    unfold parsE at h
    by_cases c : par ns 0 = -1
    · exact ⟨c, fun j h1 h2 => by omega⟩
    · rw [if_neg c] at h; cases h
  | d + 1, i, h => by
    rw [show parsE ns (d + 1) i = if parBad ns (i : Int) = true then 3 else parsE ns d (i + 1) from rfl] at h
    by_cases c : parBad ns (i : Int) = true
    · rw [if_pos c] at h; cases h
    · rw [if_neg c] at h
      obtain ⟨h1, h2⟩ := parsE_ok h
      refine ⟨h1, fun j h3 h4 => ?_⟩
      by_cases e : j = i
      · subst e; simpa using c
      · exact h2 j (by omega) (by omega)
theorem orE_eq_zero {a b : Int} (h : orE a b = 0) : a = 0 ∧ b = 0 := by
  unfold orE at h
  by_cases c : a = 0
  · simp [c] at h; exact ⟨c, h⟩
  · rw [if_pos c] at h; exact absurd h c
theorem parBad_ok {ns : List S43} {i : Int} (h : parBad ns i = false) : par ns i = -1 ∨ (0 ≤ par ns i ∧ par ns i < ns.length ∧ hasK (kidL ns (par ns i)) i = true) := by
  unfold parBad at h
  by_cases c : par ns i = -1
  · exact .inl c
  · right
    simp [c] at h
    exact ⟨h.1, h.2.1, h.2.2⟩
theorem inR_of {ns : List S43} (h : parsE ns ns.length 0 = 0) : InR ns := by
  intro i h0 h1
  have := (parsE_ok h).2 i.toNat (Nat.zero_le _) (by omega)
  rw [show ((i.toNat : Nat) : Int) = i by omega] at this
  rcases parBad_ok this with h | h
  · omega
  · exact h.2.1
theorem prog_ups (ns : List S43) (q : Bool) (hl : ns.length ≤ 1000) (hr : InR ns) (d : Nat) : ∀ (i k : Nat), i + d = ns.length → d + ns.length + 2 < k → dom_Check.l1 k (ns.length : Int) (i : Int) ns q = some (upsE ns d i) := by
  induction d with
  | zero =>
    intro i k h hk
    obtain ⟨k, rfl⟩ : ∃ z, k = z + 1 := ⟨k - 1, by omega⟩
    rw [dom_Check.l1, if_neg (by omega)]
    rfl
  | succ d ih =>
    intro i k h hk
    obtain ⟨k, rfl⟩ : ∃ z, k = z + 1 := ⟨k - 1, by omega⟩
    rw [dom_Check.l1, if_pos (by omega), up_eq ns q hl hr (i : Int) (by omega) (by omega) k (by omega), Option.bind_some, w1 i (by omega), ih (i + 1) k (by omega) (by omega), upsE_succ]
    unfold q0m
    by_cases c : ns.length < q1s ns (ns.length + 1) (i : Int)
    · rw [if_pos (by omega), if_pos c]
    · rw [if_neg (by omega), if_neg c]
      by_cases c' : 40 < q1s ns (ns.length + 1) (i : Int)
      · rw [if_pos (by omega), if_pos c']
      · rw [if_neg (by omega), if_neg c']
theorem ref_ups (ns : List S43) (q : Bool) (hl : ns.length ≤ 1000) (hr : InR ns) (d : Nat) : ∀ (i k : Nat), i + d = ns.length → d + ns.length + 2 < k → clerestoryref1_DocErr.l4 k (ns.length : Int) (i : Int) ns q = some (upsE ns d i) := by
  induction d with
  | zero =>
    intro i k h hk
    obtain ⟨k, rfl⟩ : ∃ z, k = z + 1 := ⟨k - 1, by omega⟩
    rw [clerestoryref1_DocErr.l4, if_neg (by omega)]
    rfl
  | succ d ih =>
    intro i k h hk
    obtain ⟨k, rfl⟩ : ∃ z, k = z + 1 := ⟨k - 1, by omega⟩
    rw [clerestoryref1_DocErr.l4, if_pos (by omega), deep_eq ns q hl hr (i : Int) (by omega) (by omega) k (by omega), Option.bind_some, w1 i (by omega), ih (i + 1) k (by omega) (by omega), upsE_succ]
    unfold q0m
    by_cases c : ns.length < q1s ns (ns.length + 1) (i : Int)
    · rw [if_pos c, if_pos c, if_pos (by omega)]
    · rw [if_neg c, if_neg c, if_neg (by omega)]
      by_cases c' : 40 < q1s ns (ns.length + 1) (i : Int)
      · rw [if_pos (by omega), if_pos c']
      · rw [if_neg (by omega), if_neg c']
def rounds (ns : List S43) (M : Nat) : Nat := (2 * M + 3) * ns.length + 3 * ns.length + M + 1300
theorem prog_nodes (ns : List S43) (q : Bool) (hl : ns.length ≤ 200) (h1 : 0 < ns.length) (hs : SmallN ns) (M : Nat) (hM : M ≤ 4611686018427387900) (hk : KidsLe ns M) (d : Nat) : ∀ (i k : Nat), i + d = ns.length → d + rounds ns M < k →
    dom_Check.l0 k ns (ns.length : Int) (i : Int) ns q = some (orE (nodesE ns d i) (orE (kidsAll ns) (upsE ns ns.length 0))) := by
  induction d with
  | zero =>
    intro i k h hk'
    obtain ⟨k, rfl⟩ : ∃ z, k = z + 1 := ⟨k - 1, by omega⟩
    unfold rounds at hk'
    rw [dom_Check.l0, if_neg (by omega), kids_eq ns q (by omega) h1 M hM hk k (by omega), Option.bind_some]
    show _ = some (orE 0 _)
    rw [orE_zero]
    by_cases c : kidsAll ns = 0
    · rw [if_pos c, c, orE_zero]
      have hr : InR ns := inR_of (orE_eq_zero c).2
      exact prog_ups ns q (by omega) hr ns.length 0 k (by omega) (by omega)
    · rw [if_neg c, orE_ne _ c]
  | succ d ih =>
    intro i k h hk'
    obtain ⟨k, rfl⟩ : ∃ z, k = z + 1 := ⟨k - 1, by omega⟩
    have hrd : 1300 ≤ rounds ns M := by unfold rounds; omega
    rw [dom_Check.l0, if_pos (by omega), if_pos (by omega), if_pos (by omega), w1 i (by omega), ih (i + 1) k (by omega) (by omega), nodesE_succ]
    obtain ⟨x, hx⟩ : ∃ x, q00 ns (i : Int) = x := ⟨_, rfl⟩
    have hsx := hs (i : Int)
    rw [hx] at hsx
    have eb : (((q00 ns (i : Int)).f0 == 1) != ((i : Int) == 0)) = rootBad ns i := by
      unfold rootBad
      rw [show ((q00 ns (i : Int)).f0 == 1) = decide ((q00 ns (i : Int)).f0 = 1) from rfl]
      congr 1
      rw [Bool.eq_iff_iff]
      simp
    rw [eb, hx]
    by_cases c : rootBad ns i = true
    · rw [if_pos c, if_pos c]; rfl
    · rw [if_neg c, if_neg c, one_eq x hsx.1 hsx.2 k (by omega), Option.bind_some]
      by_cases c2 : nodeE x = 0
      · rw [if_pos c2, c2, orE_zero]
      · rw [if_neg c2, orE_ne _ c2, orE_ne _ c2]
theorem ref_nodes (ns : List S43) (q : Bool) (hl : ns.length ≤ 200) (h1 : 0 < ns.length) (M : Nat) (hM : M ≤ 4611686018427387900) (hk : KidsLe ns M) (d : Nat) : ∀ (i k : Nat), i + d = ns.length → 2 * d + rounds ns M < k →
    clerestoryref1_DocErr.l0 k (ns.length : Int) (i : Int) ns q = some (orE (nodesE ns d i) (orE (kidsAll ns) (upsE ns ns.length 0))) := by
  induction d with
  | zero =>
    intro i k h hk'
    obtain ⟨k, rfl⟩ : ∃ z, k = z + 1 := ⟨k - 1, by omega⟩
    unfold rounds at hk'
    rw [clerestoryref1_DocErr.l0, if_neg (by omega)]
    show _ = some (orE 0 _)
    rw [orE_zero]
    have h3 := ref_l3 ns q (by omega) h1 M hM hk (M + 2 * ns.length + 3) (by omega) (upsE ns ns.length 0) (fun hz k hk => ref_ups ns q (by omega) (inR_of hz) ns.length 0 k (by omega) (by omega)) ns.length 0
    have h2 := ref_l1 ns q (by omega) M hM hk (M + 3 * ns.length + 4) (by omega) (orE (parsE ns ns.length 0) (upsE ns ns.length 0)) (fun k hk => h3 k (by omega) rfl (by omega)) ns.length 0 k (by omega) (by omega)
    refine h2.trans ?_
    unfold kidsAll
    by_cases c : kidsL ns ns.length 0 = 0
    · rw [c, orE_zero, orE_zero]
    · rw [orE_ne _ c, orE_ne _ c, orE_ne _ c]
  | succ d ih =>
    intro i k h hk'
    obtain ⟨k, rfl⟩ : ∃ z, k = z + 2 := ⟨k - 2, by omega⟩
    have hrd : 1300 ≤ rounds ns M := by unfold rounds; omega
    obtain ⟨x, hx⟩ : ∃ x, q00 ns (i : Int) = x := ⟨_, rfl⟩
    have hj : clerestoryref1_DocErr.j1 (k + 1) (ns.length : Int) (i : Int) (rootBad ns i) ns q = some (orE (nodesE ns (d + 1) i) (orE (kidsAll ns) (upsE ns ns.length 0))) := by
      rw [clerestoryref1_DocErr.j1, nodesE_succ, hx]
      by_cases c : rootBad ns i = true
      · rw [if_pos c, if_pos c]; rfl
      · rw [if_neg c, if_neg c, if_pos (by omega), if_pos (by omega), w1 i (by omega), ih (i + 1) k (by omega) (by omega), nodeErr_eq x k (by omega), Option.bind_some]
        by_cases c2 : nodeE x = 0
        · rw [if_pos c2, c2, orE_zero]
        · rw [if_neg c2, orE_ne _ c2, orE_ne _ c2]
    rw [clerestoryref1_DocErr.l0, if_pos (by omega)]
    have eb : (((q00 ns (i : Int)).f0) == 1) = decide ((q00 ns (i : Int)).f0 = 1) := rfl
    by_cases c0 : i = 0
    · rw [if_pos (by omega), if_pos (by omega), if_pos (by omega)]
      have er : rootBad ns i = !decide ((q00 ns (i : Int)).f0 = 1) := by unfold rootBad; rw [decide_eq_true c0]; simp
      by_cases c1 : (q00 ns (i : Int)).f0 = 1
      · rw [if_pos c1, if_neg (by omega)]
        rw [er, decide_eq_true c1] at hj
        exact hj
      · rw [if_neg c1]
        rw [er, decide_eq_false c1] at hj
        exact hj
    · rw [if_neg (by omega), if_pos (by omega), if_pos (by omega), if_pos (by omega)]
      have er : rootBad ns i = decide ((q00 ns (i : Int)).f0 = 1) := by unfold rootBad; rw [decide_eq_false c0]; simp
      rw [eb, ← er]
      exact hj
theorem check_eq (ns : List S43) (q : Bool) (hs : SmallN ns) (M : Nat) (hM : M ≤ 4611686018427387900) (hk : KidsLe ns M) (k : Nat) (hk' : 2 * ns.length + rounds ns M < k) : dom_Check.f k ns q = some (docE ns) := by
  unfold dom_Check.f docE
  by_cases c : 200 < ns.length
  · rw [if_pos (by omega), if_pos c]
  · rw [if_neg (by omega), if_neg c]
    by_cases c0 : ns.length = 0
    · rw [if_pos (by omega), if_pos c0]
    · rw [if_neg (by omega), if_neg c0]
      exact prog_nodes ns q (by omega) (by omega) hs M hM hk ns.length 0 k (by omega) (by omega)
theorem docErr_eq (ns : List S43) (q : Bool) (M : Nat) (hM : M ≤ 4611686018427387900) (hk : KidsLe ns M) (k : Nat) (hk' : 2 * ns.length + rounds ns M < k) : clerestoryref1_DocErr.f k ns q = some (docE ns) := by
  unfold clerestoryref1_DocErr.f docE
  by_cases c : 200 < ns.length
  · rw [if_pos (by omega), if_pos c]
  · rw [if_neg (by omega), if_neg c]
    by_cases c0 : ns.length = 0
    · rw [if_pos (by omega), if_pos c0]
    · rw [if_neg (by omega), if_neg c0]
      exact ref_nodes ns q (by omega) (by omega) M hM hk ns.length 0 k (by omega) (by omega)
end Go.Proofs.YthjnallbbhnndaaDoor.Dm
namespace Go.Proofs.YthjnallbbhnndaaDoor.Rd
open Go.ChangeShapes Go.WideShapes Go.ChangeAt Go.RowKit Go.Proofs.YthjnallbbhnndaaDoorW.PrintWords
def Reads {α : Type} (P : Program) (t : TypeId) (k : Kd α) (Q : α → Prop) : Prop :=
  P.cellsOf t = k.sz ∧ ∀ (H : Type) (enc : TypeId × Value → H) (w : World) (fuel : Nat) (cs : List Value) (x : DataW H × List MemPlace),
    DataW.trod enc P w 0 (fun _ => true) true fuel t cs = some x → (∀ n ∈ x.1.weights P t, n ≤ reachBytes) → ∃ a : α, k.K w a cs ∧ Q a
variable {P : Program} {t : TypeId}
theorem Reads.imp {α : Type} {k : Kd α} {Q Q' : α → Prop} (h : Reads P t k Q) (hq : ∀ a, Q a → Q' a) : Reads P t k Q' := by
  refine ⟨h.1, fun H enc w fuel cs x hx hw => ?_⟩
  obtain ⟨a, ha, hq'⟩ := h.2 H enc w fuel cs x hx hw
  exact ⟨a, ha, hq a hq'⟩
theorem reads_int {k : IntKind} (ht : P.underlying t = some (.int k)) (hc : P.cellsOf t = 1) : Reads P t (Kd.int k) (fun n => (Lit.int k n).wf = true) := by
  refine ⟨hc, fun H enc w fuel cs x hx _ => ?_⟩
  obtain ⟨n, rfl, _, hw⟩ := DataW.trod_int ht hx
  exact ⟨n, rfl, hw⟩
theorem reads_bool (ht : P.underlying t = some .bool) (hc : P.cellsOf t = 1) : Reads P t Kd.bool (fun _ => True) := by
  refine ⟨hc, fun H enc w fuel cs x hx _ => ?_⟩
  obtain ⟨b, rfl, _⟩ := DataW.trod_bool ht hx
  exact ⟨b, rfl, trivial⟩
theorem reads_string (ht : P.underlying t = some .string) (hc : P.cellsOf t = 1) : Reads P t Kd.string (fun s => s.size ≤ reachBytes) := by
  refine ⟨hc, fun H enc w fuel cs x hx hw => ?_⟩
  obtain ⟨s, rfl, rfl, _⟩ := DataW.trod_string ht hx
  exact ⟨s, rfl, by simpa [DataW.weights] using hw⟩
theorem weightsAll_mem {H : Type} {e : TypeId} : ∀ {l : List (DataW H)} {d : DataW H}, d ∈ l → ∀ n ∈ d.weights P e, n ∈ DataW.weightsAll P e l
  | a :: l, d, hd, n, hn => by
    unfold DataW.weightsAll
    rcases List.mem_cons.1 hd with rfl | h
    · exact List.mem_append_left _ hn
    · exact List.mem_append_right _ (weightsAll_mem h n hn)
theorem choose_list {α : Type} {p : Nat → α → Prop} : ∀ (n : Nat), (∀ i, i < n → ∃ a, p i a) → ∃ l : List α, l.length = n ∧ ∀ i a, l[i]? = some a → p i a
  | 0, _ => ⟨[], rfl, fun i a h => by simp at h⟩
  | n + 1, h => by
    obtain ⟨l, hl, hp⟩ := choose_list n (fun i hi => h i (by omega))
    obtain ⟨a, ha⟩ := h n (by omega)
    refine ⟨l ++ [a], by simp [hl], fun i b hb => ?_⟩
    by_cases hi : i < l.length
    · rw [List.getElem?_append_left hi] at hb
      exact hp i b hb
    · have := (List.getElem?_eq_some_iff.1 hb).1
      simp at this
      have e : i = l.length := by omega
      subst e
      simp at hb
      subst hb
      rw [hl]
      exact ha
theorem reads_slice {e : TypeId} {α : Type} {k : Kd α} {Q : α → Prop} (ht : P.underlying t = some (.slice e)) (hc : P.cellsOf t = 1) (he : Reads P e k Q) :
    Reads P t (Kd.slice e k) (fun l => l.length * P.bytesOf e ≤ reachBytes ∧ l.length ≤ 9223372036854775807 ∧ ∀ a ∈ l, Q a) := by
  refine ⟨hc, fun H enc w fuel cs x hx hw => ?_⟩
  rcases DataW.trod_slice ht hx with ⟨rfl, rfl⟩ | ⟨a, len, cap, elems, rest, n, _, rfl, rfl, _, hl, hm, hlen, hel, _, _⟩
  · exact ⟨[], ⟨none, 0, rfl, Nat.le_refl _, ⟨rfl, by simp, fun h => absurd h (by simp)⟩⟩, by simp, by simp, by simp⟩
  · have hw' : ∀ m ∈ ((elems.map (·.1)).length + (rest.map (·.1)).length) * P.bytesOf e :: (DataW.weightsAll P e (elems.map (·.1)) ++ DataW.weightsAll P e (rest.map (·.1))), m ≤ reachBytes := by
      have := hw
      unfold DataW.weights at this
      rw [ht] at this
      exact this
    have each : ∀ i, i < len → ∃ b, (∃ c, w.cells? 0 (a.add (i * P.cellsOf e)) (P.cellsOf e) = some c ∧ k.K w b c) ∧ Q b := by
      intro i hi
      have h1 := hel i hi
      have hi' : i < elems.length := by omega
      rw [List.getElem?_eq_getElem hi', Option.bind_eq_some_iff] at h1
      obtain ⟨c, hcs, hy⟩ := h1
      obtain ⟨b, hb, hq⟩ := he.2 H enc w n c _ hy (fun m hm' => hw' m (List.mem_cons_of_mem _ (List.mem_append_left _ (weightsAll_mem (List.mem_map.2 ⟨_, List.getElem_mem hi', rfl⟩) m hm'))))
      exact ⟨b, ⟨c, hcs, hb⟩, hq⟩
    obtain ⟨l, hll, hp⟩ := choose_list len each
    have hmax : len ≤ 9223372036854775807 := by unfold maxLen at hm; omega
    refine ⟨l, ⟨some a, cap, by rw [hll], by omega, ⟨rfl, by omega, fun _ => ⟨a, rfl, fun j p hj => ?_⟩⟩⟩, ?_, by omega, fun b hb => ?_⟩
    · obtain ⟨⟨c, hcs, hb⟩, _⟩ := hp j p hj
      refine ⟨c, k.K_len hb, hb, fun i u hu => ?_⟩
      obtain ⟨_, hlen', hcell⟩ := World.cells?_some hcs
      have hi := (List.getElem?_eq_some_iff.1 hu).1
      have := hcell i (by omega)
      rw [hu, Go.Deep.add_add] at this
      rw [← he.1]
      exact this
    · have := hw' _ (List.mem_cons_self ..)
      simp only [List.length_map] at this
      rw [hll, ← hlen]
      exact Nat.le_trans (Nat.mul_le_mul_right _ (Nat.le_add_right _ _)) this
    · obtain ⟨i, hi⟩ := List.getElem?_of_mem hb
      exact (hp i b hi).2
def ReadsF {α : Type} (P : Program) (fs : List Field) (off : Nat) (k : Kd α) (Q : α → Prop) : Prop :=
  ∀ (H : Type) (enc : TypeId × Value → H) (w : World) (n : Nat) (cs : List Value) (xs : List (DataW H × List MemPlace)), xs.length = fs.length →
    (∀ (i : Nat) (f : Field), fs[i]? = some f → DataW.trod enc P w 0 (fun _ => true) true n f.type ((cs.drop f.offset).take (P.cellsOf f.type)) = xs[i]?) →
    (∀ m ∈ DataW.weightsEach P (fs.map (·.type)) (xs.map (·.1)), m ≤ reachBytes) → cs.length = off + k.sz → ∃ a : α, k.K w a (cs.drop off) ∧ Q a
theorem readsF_one {f : Field} {off : Nat} {α : Type} {k : Kd α} {Q : α → Prop} (hf : f.offset = off) (h : Reads P f.type k Q) : ReadsF P [f] off k Q := by
  intro H enc w n cs xs hl hx hw hc
  obtain ⟨y, rfl⟩ : ∃ y, xs = [y] := by
    match xs, hl with
    | [y], _ => exact ⟨y, rfl⟩
  have h1 := hx 0 f rfl
  rw [hf, h.1, List.take_of_length_le (by rw [List.length_drop]; omega)] at h1
  exact h.2 H enc w n _ y h1 (fun m hm => hw m (by simp [DataW.weightsEach, hm]))
theorem readsF_cons {f : Field} {fs : List Field} {off : Nat} {α β : Type} {k1 : Kd α} {k2 : Kd β} {Q1 : α → Prop} {Q2 : β → Prop} (hf : f.offset = off) (h : Reads P f.type k1 Q1) (hr : ReadsF P fs (off + k1.sz) k2 Q2) :
    ReadsF P (f :: fs) off (Kd.pair k1 k2) (fun p => Q1 p.1 ∧ Q2 p.2) := by
  intro H enc w n cs xs hl hx hw hc
  obtain ⟨y, ys, rfl⟩ : ∃ y ys, xs = y :: ys := by
    match xs, hl with
    | y :: ys, _ => exact ⟨y, ys, rfl⟩
  have h1 := hx 0 f rfl
  rw [hf, h.1] at h1
  have hsz : (Kd.pair k1 k2).sz = k1.sz + k2.sz := rfl
  obtain ⟨a, ha, hqa⟩ := h.2 H enc w n _ y h1 (fun m hm => hw m (by simp [DataW.weightsEach, hm]))
  obtain ⟨b, hb, hqb⟩ := hr H enc w n cs ys (by simpa using hl) (fun i g hg => by simpa using hx (i + 1) g (by simpa using hg)) (fun m hm => hw m (by simp [DataW.weightsEach]; exact .inr (by simpa using hm))) (by omega)
  refine ⟨(a, b), ⟨_, _, ?_, ha, hb⟩, hqa, hqb⟩
  rw [← List.drop_drop, List.take_append_drop]
theorem reads_struct {fs : Array Field} {α : Type} {k : Kd α} {Q : α → Prop} (ht : P.underlying t = some (.struct fs)) (hc : P.cellsOf t = k.sz) (h : ReadsF P fs.toList 0 k Q) : Reads P t k Q := by
  refine ⟨hc, fun H enc w fuel cs x hx hw => ?_⟩
  obtain ⟨xs, n, _, rfl, hl, hlen, hf⟩ := DataW.trod_struct ht hx
  have := h H enc w n cs xs (by simpa using hlen) (fun i f hi => hf i f (by simpa using hi)) (fun m hm => hw m (by unfold DataW.weights; rw [ht]; exact hm)) (by omega)
  simpa using this
theorem Reads.iso {α β : Type} {k : Kd α} {Q : α → Prop} (h : Reads P t k Q) (f : β → α) (g : α → β) (hg : ∀ a, f (g a) = a) : Reads P t (Kd.iso k f) (fun b => Q (f b)) := by
  refine ⟨h.1, fun H enc w fuel cs x hx hw => ?_⟩
  obtain ⟨a, ha, hq⟩ := h.2 H enc w fuel cs x hx hw
  exact ⟨g a, by show k.K w (f (g a)) cs; rw [hg]; exact ha, by show Q (f (g a)); rw [hg]; exact hq⟩
theorem open_slice_arg {H : Type} {enc : TypeId × Value → H} {r : Reach} {b0 : Nat} {w : World} {e : TypeId} {α : Type} {k : Kd α} {Q : List α → Prop} {v : Value} {d : DataW H} {p : List MemPlace}
    (hr : Reads P t (Kd.slice e k) Q) (ht : P.underlying t = some (.slice e)) (hv : Value.okWide P w r b0 t v) (h : DataW.Trod enc P w 0 (fun _ => true) true t v d p) (hw : ∀ n ∈ d.weights P t, n ≤ reachBytes) :
    ∃ (A : Option Addr) (c : Nat) (l : List α), v = .slice A l.length c ∧ l.length ≤ c ∧ Kd.C k w A l.length l ∧ Q l := by
  obtain ⟨a0, len, cap, rfl⟩ := okWide_slice ht hv
  obtain ⟨fuel, hf⟩ := h
  obtain ⟨l, ⟨A, c, hcs, hlc, hC⟩, hq⟩ := hr.2 H enc w fuel _ _ hf hw
  simp only [Value.cells, List.cons.injEq, and_true] at hcs
  exact ⟨A, c, l, hcs, hlc, hC, hq⟩
theorem open_struct_arg {H : Type} {enc : TypeId × Value → H} {r : Reach} {b0 : Nat} {w : World} {fs : Array Field} {α : Type} {k : Kd α} {Q : α → Prop} {v : Value} {d : DataW H} {p : List MemPlace}
    (hr : Reads P t k Q) (ht : P.underlying t = some (.struct fs)) (hv : Value.okWide P w r b0 t v) (h : DataW.Trod enc P w 0 (fun _ => true) true t v d p) (hw : ∀ n ∈ d.weights P t, n ≤ reachBytes) :
    ∃ (cs : List Value) (x : α), v = .agg ⟨cs⟩ ∧ k.K w x cs ∧ Q x := by
  obtain ⟨cs, rfl, _⟩ := okWide_struct ht hv
  obtain ⟨fuel, hf⟩ := h
  obtain ⟨x, hx, hq⟩ := hr.2 H enc w fuel _ _ hf hw
  exact ⟨cs.toList, x, rfl, hx, hq⟩
theorem weights_arg {H : Type} {ts : List TypeId} {ds : List (DataW H)} (h : (DataW.weightsEach P ts ds).all (· ≤ reachBytes) = true) {j : Nat} {d : DataW H} (ht : ts[j]? = some t) (hd : ds[j]? = some d) : ∀ n ∈ d.weights P t, n ≤ reachBytes := by
  intro n hn
  have := DataW.weights_mem_each ht hd n hn
  simpa using (List.all_eq_true.1 h) n this
end Go.Proofs.YthjnallbbhnndaaDoor.Rd
