/- The given statement of the law ActiveAsks: for every input that the given row lets in, the call returns true and each argument reads behind the call as it read before. No further condition. -/
import Derived.Test.YthecjfkafpndoaaRows
import Derived.Test.YthecjfkafpndoaaQActiveAsks
import Derived.Test.YthecjfkafpndoaaPureActiveAsks
import Derived.WalkKit
import Derived.ProofKit
import Derived.OpenShut
import Derived.ShutString
import Derived.ChangeOld
import Derived.Below
import Derived.SizedLaws
namespace Go.Proofs.Ythecjfkafpndoaa.activeAsks
open Go.ChangeShapes Go.WideShapes Go.ChangeAt Go.RowKit Go.Proofs.Ythecjfkafpndoaa Go.Proofs.Ythecjfkafpndoaa.XAc Go.Proofs.YthecjfkafpndoaaW.PrintWords
open Go.ChangeMaps (open_string shut_string)
set_option linter.unusedVariables false
theorem own : ownKnob Try.prog.godebug = none := by kernel_rfl
theorem laidOut : laidOutB Try.prog = true := by kernel_rfl
set_option maxRecDepth 100000 in
theorem lifted (os : Os) (started : os.Started) (H : Type) (enc : TypeId × Value → H) :
    ReturnsInHanded {} Try.checked os 5 .any (Rows.activeAsksSpec.pre6 enc Try.prog Try.f5 Rows.activeAsksRow.domain false) (Rows.activeAsksSpec.post enc Try.prog Try.f5 false true false false) := by
  refine returnsInHanded_of_change_sized (C := Try.checked) own started (by kernel_rfl) Try.func5
    (ChangeSpec.witness6 (enc := enc) (C := Try.checked) false ⟨#[], #[.slice none 0 0, .string ByteArray.empty, .slice none 0 0], []⟩ 8 (by kernel_rfl) (by kernel_rfl) (by kernel_rfl) (by kernel_rfl)) ?_
  intro W base args ds gs before hval0 hW hcnd hsz0 _
  have hsz : (DataW.weightsEach Try.prog (Try.f5.params.toList ++ Rows.activeAsksSpec.plain.varTypes Try.prog) (ds ++ gs)).all (· ≤ reachBytes) = true := hsz0
  have hval : ∀ (j : Nat) t v, Try.f5.params[j]? = some t → args[j]? = some v → Value.okWide Try.prog W .any base t v := hval0
  have hW' := hW
  obtain ⟨p, q, hA0, hV, rfl, hfz, hnd⟩ := hW
  have hA : DataW.TrodAll enc Try.prog W 0 (fun _ => true) true Try.f5.params.toList args.toList ds p := hA0
  rw [Try.params5] at hA hval hsz
  obtain ⟨v0, vs0, d0, ds0, p0, q0, hargs, rfl, rfl, h0, r0⟩ := trodAll_cons hA
  obtain ⟨v1, vs1, d1, ds1, p1, q1, rfl, rfl, rfl, h1, r1⟩ := trodAll_cons r0
  obtain ⟨v2, vs2, d2, ds2, p2, q2, rfl, rfl, rfl, h2, r2⟩ := trodAll_cons r1
  obtain ⟨rfl, rfl, rfl⟩ := trodAll_nil r2
  obtain rfl : args = #[v0, v1, v2] := by cases args; simp_all
  obtain ⟨rfl, rfl⟩ := trodVars_none hV
  have g0 := h0
  have lt0 : ∀ x ∈ p0, x.block < W.heap.size := by obtain ⟨m, hm⟩ := g0; exact DataW.trod_lt m _ _ _ hm
  have wt0 := Rd.weights_arg hsz (j := 0) (t := 22) rfl rfl
  obtain ⟨A0, c0, l0, rfl, hc0, hr0, w0⟩ := Rd.open_slice_arg (Q := (fun l_ : List (S25) => l_.length * 48 ≤ reachBytes ∧ l_.length ≤ 9223372036854775807 ∧ ∀ a ∈ l_, ok25 a)) (show Rd.Reads Try.prog 22 (Kd.slice 25 k25) (fun l_ : List (S25) => l_.length * 48 ≤ reachBytes ∧ l_.length ≤ 9223372036854775807 ∧ ∀ a ∈ l_, ok25 a) from (Rd.reads_slice Try.underlying22 (by kernel_rfl) rd25).imp (fun l_ h_ => ⟨(show Try.prog.bytesOf 25 = 48 from by kernel_rfl) ▸ h_.1, h_.2⟩)) Try.underlying22 (hval 0 22 v0 rfl rfl) h0 wt0
  obtain ⟨a1, rfl, rfl, rfl, y1⟩ := open_string Try.underlying9 (hval 1 9 v1 rfl rfl) h1
  have w1 : a1.size ≤ reachBytes := by
    have z := sized_string hsz (j := 1) (t := 9) rfl rfl
    rw [Array.length_toList] at z
    exact z
  have g2 := h2
  have lt2 : ∀ x ∈ p2, x.block < W.heap.size := by obtain ⟨m, hm⟩ := g2; exact DataW.trod_lt m _ _ _ hm
  have wt2 := Rd.weights_arg hsz (j := 2) (t := 39) rfl rfl
  obtain ⟨A2, c2, l2, rfl, hc2, hr2, w2⟩ := Rd.open_slice_arg (Q := (fun l_ : List Int => l_.length * 8 ≤ reachBytes ∧ l_.length ≤ 9223372036854775807 ∧ ∀ a ∈ l_, (fun x_ : Int => (Lit.int .i64 x_).wf = true) a)) (show Rd.Reads Try.prog 39 (Kd.slice 3 (Kd.int .i64)) (fun l_ : List Int => l_.length * 8 ≤ reachBytes ∧ l_.length ≤ 9223372036854775807 ∧ ∀ a ∈ l_, (fun x_ : Int => (Lit.int .i64 x_).wf = true) a) from (Rd.reads_slice Try.underlying39 (by kernel_rfl) (Rd.reads_int Try.underlying3 (by kernel_rfl))).imp (fun l_ h_ => ⟨(show Try.prog.bytesOf 3 = 8 from by kernel_rfl) ▸ h_.1, h_.2⟩)) Try.underlying39 (hval 2 39 v2 rfl rfl) h2 wt2
  clear hA0 hval0 hsz0 hsz
  obtain ⟨k, hP⟩ := Pure.ActiveAsks l0 a1 l2 w0 w1 w2
  refine (clerestorylaw1_ActiveAsks.calls k A0 c0 l0 a1 A2 c2 l2 true W hr0 hc0 hr2 hc2 hP).mono fun e W' ⟨he, bel0⟩ => ?_
  have bel : Below W.heap.size W W' := bel0
  subst he
  exact ⟨_, rfl, _, _, _, [], _, [], hW', trodAll_mk1 (shut_bool Try.underlying4 _), (trodAll_cons_mk (Below.trod laidOut (by kernel_rfl) (of_decide_eq_true (by kernel_rfl)) g0 bel lt0) (trodAll_cons_mk (shut_string Try.underlying9 y1) (trodAll_cons_mk (Below.trod laidOut (by kernel_rfl) (of_decide_eq_true (by kernel_rfl)) g2 bel lt2) trodAll_mk0))), rfl, bel.frame _, fun h => by cases h⟩
theorem over : Rows.activeAsksRow.holds Try.pinned (OpenSpec.ofChange Rows.activeAsksSpec) :=
  OpenClaim.holds_of_wide 5 Try.f5 rfl rfl rfl rfl rfl rfl rfl ⟨rfl, rfl, rfl, rfl, rfl⟩ rfl rfl rfl rfl rfl (by kernel_rfl) Try.func5 (by kernel_rfl)
    (of_decide_eq_true (by kernel_rfl)) (by unfold Func.isWrapper; first | (rw [if_pos (by decide +kernel)]; kernel_rfl) | (rw [if_neg (by decide +kernel)]; exact ⟨rfl, rfl⟩))
    (fun os started H enc _ => lifted os started H enc)
theorem proved : Rows.ActiveAsksSaid := over
#print axioms proved
end Go.Proofs.Ythecjfkafpndoaa.activeAsks
namespace Go.Proofs.Ythecjfkafpndoaa
/-- The row, under a short name, for the claim. -/
theorem activeAsks_holds : Rows.ActiveAsksSaid := activeAsks.proved
end Go.Proofs.Ythecjfkafpndoaa
