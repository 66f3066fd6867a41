/- The given statement of the law ActiveTurns: for every input that the given row lets in, the call returns true and each argument reads behind the call as it read before. No further condition. -/
import Derived.Test.YthecjfkafpndoaaRows
import Derived.Test.YthecjfkafpndoaaQActiveTurns
import Derived.Test.YthecjfkafpndoaaPureActiveTurns
import Derived.WalkKit
import Derived.ProofKit
import Derived.OpenShut
import Derived.ShutString
import Derived.ChangeOld
import Derived.Below
import Derived.SizedLaws
namespace Go.Proofs.Ythecjfkafpndoaa.activeTurns
open Go.ChangeShapes Go.WideShapes Go.ChangeAt Go.RowKit Go.Proofs.Ythecjfkafpndoaa Go.Proofs.Ythecjfkafpndoaa.XAc Go.Proofs.YthecjfkafpndoaaW.PrintWords
open Go.ChangeMaps (open_string shut_string)
set_option linter.unusedVariables false
theorem own : ownKnob Try.prog.godebug = none := by kernel_rfl
theorem laidOut : laidOutB Try.prog = true := by kernel_rfl
set_option maxRecDepth 100000 in
theorem lifted (os : Os) (started : os.Started) (H : Type) (enc : TypeId × Value → H) :
    ReturnsInHanded {} Try.checked os 3 .any (Rows.activeTurnsSpec.pre6 enc Try.prog Try.f3 Rows.activeTurnsRow.domain false) (Rows.activeTurnsSpec.post enc Try.prog Try.f3 false true false false) := by
  refine returnsInHanded_of_change_sized (C := Try.checked) own started (by kernel_rfl) Try.func3
    (ChangeSpec.witness6 (enc := enc) (C := Try.checked) false ⟨#[], #[.slice none 0 0, .agg #[.int .i64 0, .string ByteArray.empty, .slice none 0 0]], []⟩ 8 (by kernel_rfl) (by kernel_rfl) (by kernel_rfl) (by kernel_rfl)) ?_
  intro W base args ds gs before hval0 hW hcnd hsz0 _
  have hsz : (DataW.weightsEach Try.prog (Try.f3.params.toList ++ Rows.activeTurnsSpec.plain.varTypes Try.prog) (ds ++ gs)).all (· ≤ reachBytes) = true := hsz0
  have hval : ∀ (j : Nat) t v, Try.f3.params[j]? = some t → args[j]? = some v → Value.okWide Try.prog W .any base t v := hval0
  have hW' := hW
  obtain ⟨p, q, hA0, hV, rfl, hfz, hnd⟩ := hW
  have hA : DataW.TrodAll enc Try.prog W 0 (fun _ => true) true Try.f3.params.toList args.toList ds p := hA0
  rw [Try.params3] at hA hval hsz
  obtain ⟨v0, vs0, d0, ds0, p0, q0, hargs, rfl, rfl, h0, r0⟩ := trodAll_cons hA
  obtain ⟨v1, vs1, d1, ds1, p1, q1, rfl, rfl, rfl, h1, r1⟩ := trodAll_cons r0
  obtain ⟨rfl, rfl, rfl⟩ := trodAll_nil r1
  obtain rfl : args = #[v0, v1] := by cases args; simp_all
  obtain ⟨rfl, rfl⟩ := trodVars_none hV
  have g0 := h0
  have lt0 : ∀ x ∈ p0, x.block < W.heap.size := by obtain ⟨m, hm⟩ := g0; exact DataW.trod_lt m _ _ _ hm
  have wt0 := Rd.weights_arg hsz (j := 0) (t := 22) rfl rfl
  obtain ⟨A0, c0, l0, rfl, hc0, hr0, w0⟩ := Rd.open_slice_arg (Q := (fun l_ : List (S25) => l_.length * 48 ≤ reachBytes ∧ l_.length ≤ 9223372036854775807 ∧ ∀ a ∈ l_, ok25 a)) (show Rd.Reads Try.prog 22 (Kd.slice 25 k25) (fun l_ : List (S25) => l_.length * 48 ≤ reachBytes ∧ l_.length ≤ 9223372036854775807 ∧ ∀ a ∈ l_, ok25 a) from (Rd.reads_slice Try.underlying22 (by kernel_rfl) rd25).imp (fun l_ h_ => ⟨(show Try.prog.bytesOf 25 = 48 from by kernel_rfl) ▸ h_.1, h_.2⟩)) Try.underlying22 (hval 0 22 v0 rfl rfl) h0 wt0
  have g1 := h1
  have lt1 : ∀ x ∈ p1, x.block < W.heap.size := by obtain ⟨m, hm⟩ := g1; exact DataW.trod_lt m _ _ _ hm
  have wt1 := Rd.weights_arg hsz (j := 1) (t := 25) rfl rfl
  obtain ⟨cs1, x1, rfl, hk1, w1⟩ := Rd.open_struct_arg (Q := ok25) rd25 Try.underlying25 (hval 1 25 v1 rfl rfl) h1 wt1
  obtain ⟨A1_2, c1_2, rfl, hc1_2, hr1_2⟩ := k25_open hk1
  clear hA0 hval0 hsz0 hsz
  obtain ⟨k, hP⟩ := Pure.ActiveTurns l0 (x1.f0) (x1.f1) (x1.f2) w0 (w1).1 (w1).2.1 (w1).2.2
  refine (clerestorylaw1_ActiveTurns.calls k (fun k_ => k_ < W.heap.size) A0 c0 l0 x1.f0 x1.f1 (fun k_ => k_ < W.heap.size) A1_2 c1_2 x1.f2 true W ⟨_, _, rfl, hc0, Kd.C_F k25_heap hr0⟩ ⟨_, _, rfl, hc1_2, Kd.C_F k99_heap hr1_2⟩ hP).mono fun e W' ⟨he, bel0⟩ => ?_
  have bel : Below W.heap.size W W' := bel0
  subst he
  exact ⟨_, rfl, _, _, _, [], _, [], hW', trodAll_mk1 (shut_bool Try.underlying4 _), (trodAll_cons_mk (Below.trod laidOut (by kernel_rfl) (of_decide_eq_true (by kernel_rfl)) g0 bel lt0) (trodAll_cons_mk (Below.trod laidOut (by kernel_rfl) (of_decide_eq_true (by kernel_rfl)) g1 bel lt1) trodAll_mk0)), rfl, bel.frame _, fun h => by cases h⟩
theorem over : Rows.activeTurnsRow.holds Try.pinned (OpenSpec.ofChange Rows.activeTurnsSpec) :=
  OpenClaim.holds_of_wide 3 Try.f3 rfl rfl rfl rfl rfl rfl rfl ⟨rfl, rfl, rfl, rfl, rfl⟩ rfl rfl rfl rfl rfl (by kernel_rfl) Try.func3 (by kernel_rfl)
    (of_decide_eq_true (by kernel_rfl)) (by unfold Func.isWrapper; first | (rw [if_pos (by decide +kernel)]; kernel_rfl) | (rw [if_neg (by decide +kernel)]; exact ⟨rfl, rfl⟩))
    (fun os started H enc _ => lifted os started H enc)
theorem proved : Rows.ActiveTurnsSaid := over
#print axioms proved
end Go.Proofs.Ythecjfkafpndoaa.activeTurns
namespace Go.Proofs.Ythecjfkafpndoaa
/-- The row, under a short name, for the claim. -/
theorem activeTurns_holds : Rows.ActiveTurnsSaid := activeTurns.proved
end Go.Proofs.Ythecjfkafpndoaa
