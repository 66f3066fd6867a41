/- What the form knows of the arguments of CharsKinds, and its plain statement: no Go, no memory in it. -/
import Derived.Test.YthecjfkafpndoaaRead
import Derived.Test.YthecjfkafpndoaaXCh7
import Derived.KernelRfl
namespace Go.Proofs.Ythecjfkafpndoaa.XCh
open Go.RowKit Go.Proofs.YthecjfkafpndoaaW.PrintWords Go.Proofs.YthecjfkafpndoaaW.PrintLast Go.Proofs.Ythecjfkafpndoaa
/-- THE ONE PURE STATEMENT of clerestorylaw1_CharsKinds. -/
def clerestorylaw1_CharsKinds.Pure : Prop := ∀ (a0 : ByteArray) (a1 : Int), (fun x_ : ByteArray => x_.size ≤ reachBytes) a0 → (fun x_ : Int => (Lit.int .i64 x_).wf = true) a1 → ∃ k, clerestorylaw1_CharsKinds.f k a0 a1 = some true
end Go.Proofs.Ythecjfkafpndoaa.XCh
