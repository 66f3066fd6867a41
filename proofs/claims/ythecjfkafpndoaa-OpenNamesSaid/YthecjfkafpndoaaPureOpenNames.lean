/- The plain law behind OpenNames: the program's four questions answer as the reference's, for every name. -/
import Derived.Test.YthecjfkafpndoaaOpenLaws
namespace Go.Proofs.Ythecjfkafpndoaa.Pure
open Go.RowKit Go.Proofs.Ythecjfkafpndoaa.XOpen Go.Proofs.YthecjfkafpndoaaW.PrintWords Go.Proofs.YthecjfkafpndoaaW.PrintLast Go.Proofs.Ythecjfkafpndoaa.L
theorem some_eq (s : ByteArray) (m : Nat) : clerestorylaw1_some.f s (m : Int) = some (s.extract 0 (min s.size m)) := by
  unfold clerestorylaw1_some.f
  have e : mn (s.size : Int) (m : Int) = ((min s.size m : Nat) : Int) := by unfold mn; omega
  rw [e, if_pos (by omega), if_pos (by omega)]
  rfl

theorem OpenNames : clerestorylaw1_OpenNames.Pure := by
  intro s _
  refine ⟨3000, ?_⟩
  unfold clerestorylaw1_OpenNames.f
  have e := some_eq s 60
  rw [show ((60 : Nat) : Int) = 60 from rfl] at e
  rw [e, begun_eq 3000 (by omega)]
  simp only [Option.bind_some]
  have hn : (s.extract 0 (min s.size 60)).size ≤ 140737488355328 := by simp; omega
  generalize s.extract 0 (min s.size 60) = n at hn
  unfold clerestoryref1_OpenSpecial.f clerestoryref1_OpenVoid.f clerestoryref1_OpenFormatting.f clerestoryref1_OpenHeading.f
  rw [special_eq n hn, void_eq n hn, formatting_eq n hn, heading_eq n, sp_word n 3000 (by omega), vo_word n 3000 (by omega), fo_word n 3000 (by omega), he_word n 3000 (by omega)]
  simp
end Go.Proofs.Ythecjfkafpndoaa.Pure
