/- What the form knows of the arguments of EntityReads, and its plain statement: no Go, no memory in it. -/
import Derived.Test.YtjlgbakdnenjhaaDoorRead
import Derived.Test.YtjlgbakdnenjhaaDoorXEn7
import Derived.KernelRfl
namespace Go.Proofs.YtjlgbakdnenjhaaDoor.XEn
open Go.RowKit Go.Proofs.YtjlgbakdnenjhaaDoorW.PrintWords Go.Proofs.YtjlgbakdnenjhaaDoorW.PrintLast Go.Proofs.YtjlgbakdnenjhaaDoor
/-- THE ONE PURE STATEMENT of clerestorylaw1_EntityReads. -/
def clerestorylaw1_EntityReads.Pure : Prop := ∀ (a0 : ByteArray) (a1 : Bool), (fun x_ : ByteArray => x_.size ≤ reachBytes) a0 → ∃ k, clerestorylaw1_EntityReads.f k a0 a1 = some true
end Go.Proofs.YtjlgbakdnenjhaaDoor.XEn
