/- What the form knows of the arguments of CharsCleans, and its plain statement: no Go, no memory in it. -/
import Derived.Test.YthecjfkafpndoaaRead
import Derived.Test.YthecjfkafpndoaaXCh3
import Derived.KernelRfl
namespace Go.Proofs.Ythecjfkafpndoaa.XCh
open Go.RowKit Go.Proofs.YthecjfkafpndoaaW.PrintWords Go.Proofs.YthecjfkafpndoaaW.PrintLast Go.Proofs.Ythecjfkafpndoaa
/-- THE ONE PURE STATEMENT of clerestorylaw1_CharsCleans. -/
def clerestorylaw1_CharsCleans.Pure : Prop := ∀ (a0 : ByteArray), (fun x_ : ByteArray => x_.size ≤ reachBytes) a0 → ∃ k, clerestorylaw1_CharsCleans.f k a0 = some true
end Go.Proofs.Ythecjfkafpndoaa.XCh
