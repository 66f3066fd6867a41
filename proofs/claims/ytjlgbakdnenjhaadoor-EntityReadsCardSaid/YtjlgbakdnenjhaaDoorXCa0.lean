/- Written by this session's program (wip/xp) out of the translation as Lean prints it: for each Go function a Lean function and the proof that the code answers just so, on the conditions named in each statement. -/
import Derived.Test.YtjlgbakdnenjhaaDoorProg
import Derived.Below
import Derived.Deep.Draws
import Derived.Deep.AppendLies
import Derived.Maps.AppendAt
import Derived.OwnWalk
import Derived.Laws.BytesArg
import Derived.Laws.MakeOwn
import Derived.Laws.OwnMore
import Derived.Deep.OwnRows
import Derived.Tactics
import Derived.Lib.ConvBytes
import Derived.Laws.Slices
import Derived.WalkKit
import Derived.KernelRfl
import Derived.RowKit3
import Derived.Deep.LoopGhost
import Derived.Deep.QuietTactic
import Derived.BigQuiet
import Derived.WideLaws
import Derived.Deep.DeepCutAuto
import Derived.Deep.CutBlock
import Derived.Deep.RegionHeld3
import Derived.Laws.Rows
import Derived.Lib.AppendStr
import Derived.ArgAppend
import Derived.Laws.IdiomCopy
import Derived.OrdersHeld
import Derived.Laws.BitsLemmas
import Derived.RowKit
import Derived.Test.YtjlgbakdnenjhaaDoorBaseD
import Derived.Test.YtjlgbakdnenjhaaDoorWWords
import Derived.Test.YtjlgbakdnenjhaaDoorWLast
import Derived.Test.YtjlgbakdnenjhaaDoorWTab
import Derived.Test.YtjlgbakdnenjhaaDoorWFour
import Derived.Test.YtjlgbakdnenjhaaDoorWQPut
import Derived.Test.YtjlgbakdnenjhaaDoorWApart
import Derived.Test.YtjlgbakdnenjhaaDoorWArr
import Derived.Test.YtjlgbakdnenjhaaDoorWZeros
import Derived.Test.YtjlgbakdnenjhaaDoorWFoot
import Derived.Test.YtjlgbakdnenjhaaDoorWKept
import Derived.Test.YtjlgbakdnenjhaaDoorWShare
import Derived.Test.YtjlgbakdnenjhaaDoorWN
import Derived.Test.YtjlgbakdnenjhaaDoorWFootNe
import Derived.Test.YtjlgbakdnenjhaaDoorWAt
import Derived.Test.YtjlgbakdnenjhaaDoorWEqStruct
import Derived.Test.YtjlgbakdnenjhaaDoorWRepsOne
import Derived.Test.YtjlgbakdnenjhaaDoorWInv
import Derived.Test.YtjlgbakdnenjhaaDoorWInvWords
import Derived.Test.YtjlgbakdnenjhaaDoorWGuard
import Derived.Test.YtjlgbakdnenjhaaDoorWNEv
import Derived.Test.YtjlgbakdnenjhaaDoorWMore
namespace Go.Proofs.YtjlgbakdnenjhaaDoor.XCa
open Go.RowKit Go.Proofs.YtjlgbakdnenjhaaDoorW.PrintWords Go.Proofs.YtjlgbakdnenjhaaDoorW.PrintLast Go.Proofs.YtjlgbakdnenjhaaDoorW.PrintMore
attribute [local go_sem] max2_int min2_int max_two min_two max_three min_three max_four min_four   -- for this text's walks alone
set_option linter.unusedVariables false
set_option linter.unusedSimpArgs false



def errW : Option Int → Value
  | none => .nilIface
  | some c => .iface 0 (.int .i64 c)
theorem errW_none : errW none = .nilIface := rfl
theorem errW_some (c : Int) : errW (some c) = .iface 0 (.int .i64 c) := rfl

-- the values' own types

end Go.Proofs.YtjlgbakdnenjhaaDoor.XCa
