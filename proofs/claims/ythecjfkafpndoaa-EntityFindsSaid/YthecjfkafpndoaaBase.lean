/- What the texts of this seat lean on: the fact on the world that strings.Index asks for (the library's variable MaxLen holds some number), and that it stays. -/
import Derived.Test.YthecjfkafpndoaaProg
import Derived.Test.YthecjfkafpndoaaShelf
import Derived.Test.YthecjfkafpndoaaWWords
namespace Go.Proofs.Ythecjfkafpndoaa
open Go.RowKit Go.Proofs.YthecjfkafpndoaaW.PrintWords
/-- The variable internal/bytealg.MaxLen holds some number. -/
def Sh (w : World) : Prop := ∃ m, w.cell? ⟨0, 0, none⟩ = some (.int .i64 m)
theorem Sh.below {w w' : World} (h : Sh w) (hb : Below w.heap.size w w') : Sh w' := by
  obtain ⟨m, hm⟩ := h
  exact ⟨m, pw_cell_below hb hm⟩
/-- What the row's form hands on. -/
theorem Sh.of {w : World} (h : w.ShapedOpen Try.prog) : Sh w := Try.laysM144.s1_3 w h
end Go.Proofs.Ythecjfkafpndoaa
