/- What the form knows of the arguments of CharsReads, and its plain statement: no Go, no memory in it. -/
import Derived.Test.YtjlgbakdnenjhaaDoorRead
import Derived.Test.YtjlgbakdnenjhaaDoorXCh4
import Derived.KernelRfl
namespace Go.Proofs.YtjlgbakdnenjhaaDoor.XCh
open Go.RowKit Go.Proofs.YtjlgbakdnenjhaaDoorW.PrintWords Go.Proofs.YtjlgbakdnenjhaaDoorW.PrintLast Go.Proofs.YtjlgbakdnenjhaaDoor
/-- THE ONE PURE STATEMENT of clerestorylaw1_CharsReads. -/
def clerestorylaw1_CharsReads.Pure : Prop := ∀ (a0 : ByteArray) (l1 : List Int), (fun x_ : ByteArray => x_.size ≤ reachBytes) a0 → (fun l_ : List Int => l_.length * 4 ≤ reachBytes ∧ l_.length ≤ 9223372036854775807 ∧ ∀ a ∈ l_, (fun x_ : Int => (Lit.int .i32 x_).wf = true) a) l1 → ∃ k, clerestorylaw1_CharsReads.f k a0 l1 = some true
end Go.Proofs.YtjlgbakdnenjhaaDoor.XCh
