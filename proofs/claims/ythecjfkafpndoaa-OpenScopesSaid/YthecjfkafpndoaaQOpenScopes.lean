/- What the form knows of the arguments of OpenScopes, and its plain statement: no Go, no memory in it. -/
import Derived.Test.YthecjfkafpndoaaRead
import Derived.Test.YthecjfkafpndoaaXOpen4
import Derived.KernelRfl
namespace Go.Proofs.Ythecjfkafpndoaa.XOpen
open Go.RowKit Go.Proofs.YthecjfkafpndoaaW.PrintWords Go.Proofs.YthecjfkafpndoaaW.PrintLast Go.Proofs.Ythecjfkafpndoaa
/-- THE ONE PURE STATEMENT of clerestorylaw1_OpenScopes. -/
def clerestorylaw1_OpenScopes.Pure : Prop := ∀ (l0 : List ByteArray) (a1 : ByteArray) (a2 : Int), (fun l_ : List ByteArray => l_.length * 16 ≤ reachBytes ∧ l_.length ≤ 9223372036854775807 ∧ ∀ a ∈ l_, (fun x_ : ByteArray => x_.size ≤ reachBytes) a) l0 → (fun x_ : ByteArray => x_.size ≤ reachBytes) a1 → (fun x_ : Int => (Lit.int .i64 x_).wf = true) a2 → ∃ k, clerestorylaw1_OpenScopes.f k l0 a1 a2 = some true
end Go.Proofs.Ythecjfkafpndoaa.XOpen
