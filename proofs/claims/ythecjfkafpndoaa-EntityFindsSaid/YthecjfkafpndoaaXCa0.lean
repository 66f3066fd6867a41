/- Written by this session's program (wip/xp) out of the translation as Lean prints it: for each Go function a Lean function and the proof that the code answers just so, on the conditions named in each statement. -/
import Derived.Test.YthecjfkafpndoaaProg
import Derived.Below
import Derived.Deep.Draws
import Derived.Deep.AppendLies
import Derived.Maps.AppendAt
import Derived.OwnWalk
import Derived.Laws.BytesArg
import Derived.Laws.MakeOwn
import Derived.Laws.OwnMore
import Derived.Deep.OwnRows
import Derived.Tactics
import Derived.Lib.ConvBytes
import Derived.Laws.Slices
import Derived.WalkKit
import Derived.KernelRfl
import Derived.RowKit3
import Derived.Deep.LoopGhost
import Derived.Deep.QuietTactic
import Derived.BigQuiet
import Derived.WideLaws
import Derived.Deep.DeepCutAuto
import Derived.Deep.CutBlock
import Derived.Deep.RegionHeld3
import Derived.Laws.Rows
import Derived.Lib.AppendStr
import Derived.ArgAppend
import Derived.Laws.IdiomCopy
import Derived.OrdersHeld
import Derived.Laws.BitsLemmas
import Derived.RowKit
import Derived.Test.YthecjfkafpndoaaBase
import Derived.Test.YthecjfkafpndoaaWWords
import Derived.Test.YthecjfkafpndoaaWLast
import Derived.Test.YthecjfkafpndoaaWTab
import Derived.Test.YthecjfkafpndoaaWFour
import Derived.Test.YthecjfkafpndoaaWQPut
import Derived.Test.YthecjfkafpndoaaWApart
import Derived.Test.YthecjfkafpndoaaWArr
import Derived.Test.YthecjfkafpndoaaWZeros
import Derived.Test.YthecjfkafpndoaaWFoot
import Derived.Test.YthecjfkafpndoaaWKept
import Derived.Test.YthecjfkafpndoaaWShare
import Derived.Test.YthecjfkafpndoaaWN
import Derived.Test.YthecjfkafpndoaaWFootNe
import Derived.Test.YthecjfkafpndoaaWAt
import Derived.Test.YthecjfkafpndoaaWEqStruct
import Derived.Test.YthecjfkafpndoaaWRepsOne
import Derived.Test.YthecjfkafpndoaaWInv
import Derived.Test.YthecjfkafpndoaaWInvWords
import Derived.Test.YthecjfkafpndoaaWGuard
import Derived.Test.YthecjfkafpndoaaWNEv
import Derived.Test.YthecjfkafpndoaaWMore
namespace Go.Proofs.Ythecjfkafpndoaa.XCa
open Go.RowKit Go.Proofs.YthecjfkafpndoaaW.PrintWords Go.Proofs.YthecjfkafpndoaaW.PrintLast Go.Proofs.YthecjfkafpndoaaW.PrintMore
attribute [local go_sem] max2_int min2_int max_two min_two max_three min_three max_four min_four   -- for this text's walks alone
set_option linter.unusedVariables false
set_option linter.unusedSimpArgs false



def errW : Option Int → Value
  | none => .nilIface
  | some c => .iface 0 (.int .i64 c)
theorem errW_none : errW none = .nilIface := rfl
theorem errW_some (c : Int) : errW (some c) = .iface 0 (.int .i64 c) := rfl

-- the values' own types

end Go.Proofs.Ythecjfkafpndoaa.XCa
