/- What the form knows of the arguments of EntityFinds, and its plain statement: no Go, no memory in it. -/
import Derived.Test.YthecjfkafpndoaaRead
import Derived.Test.YthecjfkafpndoaaXEn6
import Derived.KernelRfl
namespace Go.Proofs.Ythecjfkafpndoaa.XEn
open Go.RowKit Go.Proofs.YthecjfkafpndoaaW.PrintWords Go.Proofs.YthecjfkafpndoaaW.PrintLast Go.Proofs.Ythecjfkafpndoaa
/-- THE ONE PURE STATEMENT of clerestorylaw1_EntityFinds. -/
def clerestorylaw1_EntityFinds.Pure : Prop := ∀ (a0 : ByteArray) (a1 : Bool), (fun x_ : ByteArray => x_.size ≤ reachBytes) a0 → ∃ k, clerestorylaw1_EntityFinds.f k a0 a1 = some true
end Go.Proofs.Ythecjfkafpndoaa.XEn
