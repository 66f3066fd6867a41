/-
  NARROWER THAN 'FOR EVERY INPUT', by the rows' own cells (each row's printed sentence says how): WalkSteps: laid · WalkPairs: laid · WalkSelects: laid · SpanCuts: laid · SpanPoints: laid · IndexMakes: laid · IndexAsks: laid · DomChecks: laid · DomEdits: laid · DomAll: laid · DomAsks: laid · DomCopies: laid.
  DERIVED. THE GIVEN ROWS OF THIS SEAT. 12 by the template 'for every input the law returns true; each argument reads behind the call as it read before'; 0 by the template 'total and deterministic' (their statements: YthjnallbbhnndaaDoorTotals.lean).
  GIVEN WITH THE SEED: the statements are not yours to turn. If you find one false, say at which input.
  Laid BY PROGRAM, IN A SANDBOX (cutbox-rows.mjs): the forced cells as the released guide's own fill.sh prints them over the translation f893ce0445f52e32… (all of the seat's roots in one cut). By AI agents, Wed Nov 11 2026. No macro, syntax, notation, axiom, sorry.
-/
import Derived.Test.YthjnallbbhnndaaDoorChecked
import GoSem.PinnedTables
import GoSem.Claim
import GoSem.ClaimJoined
import GoSem.ClaimMapViews
import Derived.JoinedTies
import Derived.KernelRfl
namespace Go.Proofs.YthjnallbbhnndaaDoor
/- THE CELL 'sum', in the pinned program and in every row, IS THE sha256 OF THE DUMP (.gsa) THAT YthjnallbbhnndaaDoorProg.lean LOADS. Nothing in Lean hashes anything: it is a label: what it is worth is what the hold of that sum in a sandbox is worth. -/
noncomputable def Tryd.pinned : Pinned := { name := "ythjnallbbhnndaadoor", sum := "f893ce0445f52e32c6b76547df1930991a18ccca797a344a1ae4d4af11fbb3f7", checked := Tryd.checked }
namespace Rows
def none {H : Type} : Left H := { results := [], args := [] }

/- WHAT THE LISTED PACKAGE-LEVEL VARIABLES READ AS WHEN THE CALL BEGINS. Each datum BY PROGRAM (the guide's laid-datum.mjs) off the statement by which the dump's own 'gosem.cut.vars' lays the variable. In a bare row this is a premise. The card (YthjnallbbhnndaaDoorCards.lean) ties it to the program's text. -/
def laid_unicode_utf8_acceptRanges {H : Type} : DataW H := .agg [.agg [.lit (.int .u8 128), .lit (.int .u8 191)], .agg [.lit (.int .u8 160), .lit (.int .u8 191)], .agg [.lit (.int .u8 128), .lit (.int .u8 159)], .agg [.lit (.int .u8 144), .lit (.int .u8 191)], .agg [.lit (.int .u8 128), .lit (.int .u8 143)], .agg [.lit (.int .u8 0), .lit (.int .u8 0)], .agg [.lit (.int .u8 0), .lit (.int .u8 0)], .agg [.lit (.int .u8 0), .lit (.int .u8 0)], .agg [.lit (.int .u8 0), .lit (.int .u8 0)], .agg [.lit (.int .u8 0), .lit (.int .u8 0)], .agg [.lit (.int .u8 0), .lit (.int .u8 0)], .agg [.lit (.int .u8 0), .lit (.int .u8 0)], .agg [.lit (.int .u8 0), .lit (.int .u8 0)], .agg [.lit (.int .u8 0), .lit (.int .u8 0)], .agg [.lit (.int .u8 0), .lit (.int .u8 0)], .agg [.lit (.int .u8 0), .lit (.int .u8 0)]]
/-- One of Go's own tables, pinned by name: the form's constant. -/
def laid_unicode_utf8_first : DataW Unit := Go.Pinned.utf8First

/-- 'clerestorylaw1.WalkSteps': WHATEVER THE INPUT: true; the input reads as it did. -/
def walkStepsSpec : ChangeSpec := { name := "walkSteps", fn := fun _ => fun
  | [d1, d2, d3] => { results := [.lit (.bool true)], args := [d1, d2, d3] }
  | _ => none }
def walkStepsRow : OpenClaim := { program := "ythjnallbbhnndaadoor", sum := "f893ce0445f52e32c6b76547df1930991a18ccca797a344a1ae4d4af11fbb3f7", func := "clerestory/clerestorylaw1.WalkSteps", spec := "walkSteps", inPlace := ["internal/bytealg.IndexByteString", "internal/bytealg.IndexString"], unfollowed := true, recurses := true, named := ["unicode/utf8.first", "unicode/utf8.acceptRanges", "internal/bytealg.MaxLen"], apart := false, laid := [("unicode/utf8.acceptRanges", laid_unicode_utf8_acceptRanges), ("unicode/utf8.first", laid_unicode_utf8_first)] }
def WalkStepsSaid : Prop := walkStepsRow.holds Tryd.pinned (OpenSpec.ofChange walkStepsSpec)

/-- ITS FALSE NEIGHBOUR: 'it returns false'. Refute it at one input. -/
def walkStepsWrong : ChangeSpec := { name := "walkSteps", fn := fun _ => fun
  | [d1, d2, d3] => { results := [.lit (.bool false)], args := [d1, d2, d3] }
  | _ => none }
def WalkStepsWrongFalsely : Prop := walkStepsRow.holds Tryd.pinned (OpenSpec.ofChange walkStepsWrong)

/-- 'clerestorylaw1.WalkPairs': WHATEVER THE INPUT: true; the input reads as it did. -/
def walkPairsSpec : ChangeSpec := { name := "walkPairs", fn := fun _ => fun
  | [d1, d2, d3] => { results := [.lit (.bool true)], args := [d1, d2, d3] }
  | _ => none }
def walkPairsRow : OpenClaim := { program := "ythjnallbbhnndaadoor", sum := "f893ce0445f52e32c6b76547df1930991a18ccca797a344a1ae4d4af11fbb3f7", func := "clerestory/clerestorylaw1.WalkPairs", spec := "walkPairs", inPlace := ["internal/bytealg.IndexByteString", "internal/bytealg.IndexString"], unfollowed := true, recurses := true, named := ["unicode/utf8.first", "unicode/utf8.acceptRanges", "internal/bytealg.MaxLen"], apart := false, laid := [("unicode/utf8.acceptRanges", laid_unicode_utf8_acceptRanges), ("unicode/utf8.first", laid_unicode_utf8_first)] }
def WalkPairsSaid : Prop := walkPairsRow.holds Tryd.pinned (OpenSpec.ofChange walkPairsSpec)

/-- ITS FALSE NEIGHBOUR: 'it returns false'. Refute it at one input. -/
def walkPairsWrong : ChangeSpec := { name := "walkPairs", fn := fun _ => fun
  | [d1, d2, d3] => { results := [.lit (.bool false)], args := [d1, d2, d3] }
  | _ => none }
def WalkPairsWrongFalsely : Prop := walkPairsRow.holds Tryd.pinned (OpenSpec.ofChange walkPairsWrong)

/-- 'clerestorylaw1.WalkSelects': WHATEVER THE INPUT: true; the input reads as it did. -/
def walkSelectsSpec : ChangeSpec := { name := "walkSelects", fn := fun _ => fun
  | [d1, d2, d3, d4] => { results := [.lit (.bool true)], args := [d1, d2, d3, d4] }
  | _ => none }
def walkSelectsRow : OpenClaim := { program := "ythjnallbbhnndaadoor", sum := "f893ce0445f52e32c6b76547df1930991a18ccca797a344a1ae4d4af11fbb3f7", func := "clerestory/clerestorylaw1.WalkSelects", spec := "walkSelects", inPlace := ["internal/bytealg.IndexByteString", "internal/bytealg.IndexString"], unfollowed := true, recurses := true, named := ["unicode/utf8.first", "unicode/utf8.acceptRanges", "internal/bytealg.MaxLen"], apart := false, laid := [("unicode/utf8.acceptRanges", laid_unicode_utf8_acceptRanges), ("unicode/utf8.first", laid_unicode_utf8_first)] }
def WalkSelectsSaid : Prop := walkSelectsRow.holds Tryd.pinned (OpenSpec.ofChange walkSelectsSpec)

/-- ITS FALSE NEIGHBOUR: 'it returns false'. Refute it at one input. -/
def walkSelectsWrong : ChangeSpec := { name := "walkSelects", fn := fun _ => fun
  | [d1, d2, d3, d4] => { results := [.lit (.bool false)], args := [d1, d2, d3, d4] }
  | _ => none }
def WalkSelectsWrongFalsely : Prop := walkSelectsRow.holds Tryd.pinned (OpenSpec.ofChange walkSelectsWrong)

/-- 'clerestorylaw1.SpanCuts': WHATEVER THE INPUT: true; the input reads as it did. -/
def spanCutsSpec : ChangeSpec := { name := "spanCuts", fn := fun _ => fun
  | [d1, d2] => { results := [.lit (.bool true)], args := [d1, d2] }
  | _ => none }
def spanCutsRow : OpenClaim := { program := "ythjnallbbhnndaadoor", sum := "f893ce0445f52e32c6b76547df1930991a18ccca797a344a1ae4d4af11fbb3f7", func := "clerestory/clerestorylaw1.SpanCuts", spec := "spanCuts", inPlace := ["internal/bytealg.IndexByteString", "internal/bytealg.IndexString"], unfollowed := true, recurses := true, named := ["unicode/utf8.first", "unicode/utf8.acceptRanges", "internal/bytealg.MaxLen"], apart := false, laid := [("unicode/utf8.acceptRanges", laid_unicode_utf8_acceptRanges), ("unicode/utf8.first", laid_unicode_utf8_first)] }
def SpanCutsSaid : Prop := spanCutsRow.holds Tryd.pinned (OpenSpec.ofChange spanCutsSpec)

/-- ITS FALSE NEIGHBOUR: 'it returns false'. Refute it at one input. -/
def spanCutsWrong : ChangeSpec := { name := "spanCuts", fn := fun _ => fun
  | [d1, d2] => { results := [.lit (.bool false)], args := [d1, d2] }
  | _ => none }
def SpanCutsWrongFalsely : Prop := spanCutsRow.holds Tryd.pinned (OpenSpec.ofChange spanCutsWrong)

/-- 'clerestorylaw1.SpanPoints': WHATEVER THE INPUT: true; the input reads as it did. -/
def spanPointsSpec : ChangeSpec := { name := "spanPoints", fn := fun _ => fun
  | [d1, d2] => { results := [.lit (.bool true)], args := [d1, d2] }
  | _ => none }
def spanPointsRow : OpenClaim := { program := "ythjnallbbhnndaadoor", sum := "f893ce0445f52e32c6b76547df1930991a18ccca797a344a1ae4d4af11fbb3f7", func := "clerestory/clerestorylaw1.SpanPoints", spec := "spanPoints", inPlace := ["internal/bytealg.IndexByteString", "internal/bytealg.IndexString"], unfollowed := true, recurses := true, named := ["unicode/utf8.first", "unicode/utf8.acceptRanges", "internal/bytealg.MaxLen"], apart := false, laid := [("unicode/utf8.acceptRanges", laid_unicode_utf8_acceptRanges), ("unicode/utf8.first", laid_unicode_utf8_first)] }
def SpanPointsSaid : Prop := spanPointsRow.holds Tryd.pinned (OpenSpec.ofChange spanPointsSpec)

/-- ITS FALSE NEIGHBOUR: 'it returns false'. Refute it at one input. -/
def spanPointsWrong : ChangeSpec := { name := "spanPoints", fn := fun _ => fun
  | [d1, d2] => { results := [.lit (.bool false)], args := [d1, d2] }
  | _ => none }
def SpanPointsWrongFalsely : Prop := spanPointsRow.holds Tryd.pinned (OpenSpec.ofChange spanPointsWrong)

/-- 'clerestorylaw1.IndexMakes': WHATEVER THE INPUT: true; the input reads as it did. -/
def indexMakesSpec : ChangeSpec := { name := "indexMakes", fn := fun _ => fun
  | [d1, d2] => { results := [.lit (.bool true)], args := [d1, d2] }
  | _ => none }
def indexMakesRow : OpenClaim := { program := "ythjnallbbhnndaadoor", sum := "f893ce0445f52e32c6b76547df1930991a18ccca797a344a1ae4d4af11fbb3f7", func := "clerestory/clerestorylaw1.IndexMakes", spec := "indexMakes", inPlace := ["internal/bytealg.IndexByteString", "internal/bytealg.IndexString", "slices.overlaps[clerestory/api.HRef]", "slices.overlaps[int]"], unfollowed := true, recurses := true, named := ["unicode/utf8.first", "unicode/utf8.acceptRanges", "internal/bytealg.MaxLen"], apart := false, laid := [("unicode/utf8.acceptRanges", laid_unicode_utf8_acceptRanges), ("unicode/utf8.first", laid_unicode_utf8_first)] }
def IndexMakesSaid : Prop := indexMakesRow.holds Tryd.pinned (OpenSpec.ofChange indexMakesSpec)

/-- ITS FALSE NEIGHBOUR: 'it returns false'. Refute it at one input. -/
def indexMakesWrong : ChangeSpec := { name := "indexMakes", fn := fun _ => fun
  | [d1, d2] => { results := [.lit (.bool false)], args := [d1, d2] }
  | _ => none }
def IndexMakesWrongFalsely : Prop := indexMakesRow.holds Tryd.pinned (OpenSpec.ofChange indexMakesWrong)

/-- 'clerestorylaw1.IndexAsks': WHATEVER THE INPUT: true; the input reads as it did. -/
def indexAsksSpec : ChangeSpec := { name := "indexAsks", fn := fun _ => fun
  | [d1, d2] => { results := [.lit (.bool true)], args := [d1, d2] }
  | _ => none }
def indexAsksRow : OpenClaim := { program := "ythjnallbbhnndaadoor", sum := "f893ce0445f52e32c6b76547df1930991a18ccca797a344a1ae4d4af11fbb3f7", func := "clerestory/clerestorylaw1.IndexAsks", spec := "indexAsks", inPlace := ["internal/bytealg.IndexByteString", "internal/bytealg.IndexString", "slices.overlaps[clerestory/api.HRef]", "slices.overlaps[int]"], unfollowed := true, recurses := true, named := ["unicode/utf8.first", "unicode/utf8.acceptRanges", "internal/bytealg.MaxLen"], apart := false, laid := [("unicode/utf8.acceptRanges", laid_unicode_utf8_acceptRanges), ("unicode/utf8.first", laid_unicode_utf8_first)] }
def IndexAsksSaid : Prop := indexAsksRow.holds Tryd.pinned (OpenSpec.ofChange indexAsksSpec)

/-- ITS FALSE NEIGHBOUR: 'it returns false'. Refute it at one input. -/
def indexAsksWrong : ChangeSpec := { name := "indexAsks", fn := fun _ => fun
  | [d1, d2] => { results := [.lit (.bool false)], args := [d1, d2] }
  | _ => none }
def IndexAsksWrongFalsely : Prop := indexAsksRow.holds Tryd.pinned (OpenSpec.ofChange indexAsksWrong)

/-- 'clerestorylaw1.DomChecks': WHATEVER THE INPUT: true; the input reads as it did. -/
def domChecksSpec : ChangeSpec := { name := "domChecks", fn := fun _ => fun
  | [d] => { results := [.lit (.bool true)], args := [d] }
  | _ => none }
def domChecksRow : OpenClaim := { program := "ythjnallbbhnndaadoor", sum := "f893ce0445f52e32c6b76547df1930991a18ccca797a344a1ae4d4af11fbb3f7", func := "clerestory/clerestorylaw1.DomChecks", spec := "domChecks", inPlace := ["internal/bytealg.IndexByteString", "internal/bytealg.IndexString", "slices.overlaps[int]"], unfollowed := true, recurses := true, named := ["unicode/utf8.first", "unicode/utf8.acceptRanges", "internal/bytealg.MaxLen"], apart := false, laid := [("unicode/utf8.acceptRanges", laid_unicode_utf8_acceptRanges), ("unicode/utf8.first", laid_unicode_utf8_first)] }
def DomChecksSaid : Prop := domChecksRow.holds Tryd.pinned (OpenSpec.ofChange domChecksSpec)

/-- ITS FALSE NEIGHBOUR: 'it returns false'. Refute it at one input. -/
def domChecksWrong : ChangeSpec := { name := "domChecks", fn := fun _ => fun
  | [d] => { results := [.lit (.bool false)], args := [d] }
  | _ => none }
def DomChecksWrongFalsely : Prop := domChecksRow.holds Tryd.pinned (OpenSpec.ofChange domChecksWrong)

/-- 'clerestorylaw1.DomEdits': WHATEVER THE INPUT: true; the input reads as it did. -/
def domEditsSpec : ChangeSpec := { name := "domEdits", fn := fun _ => fun
  | [d1, d2] => { results := [.lit (.bool true)], args := [d1, d2] }
  | _ => none }
def domEditsRow : OpenClaim := { program := "ythjnallbbhnndaadoor", sum := "f893ce0445f52e32c6b76547df1930991a18ccca797a344a1ae4d4af11fbb3f7", func := "clerestory/clerestorylaw1.DomEdits", spec := "domEdits", inPlace := ["internal/bytealg.IndexByteString", "internal/bytealg.IndexString", "slices.overlaps[int]"], unfollowed := true, recurses := true, named := ["unicode/utf8.first", "unicode/utf8.acceptRanges", "internal/bytealg.MaxLen"], apart := false, laid := [("unicode/utf8.acceptRanges", laid_unicode_utf8_acceptRanges), ("unicode/utf8.first", laid_unicode_utf8_first)] }
def DomEditsSaid : Prop := domEditsRow.holds Tryd.pinned (OpenSpec.ofChange domEditsSpec)

/-- ITS FALSE NEIGHBOUR: 'it returns false'. Refute it at one input. -/
def domEditsWrong : ChangeSpec := { name := "domEdits", fn := fun _ => fun
  | [d1, d2] => { results := [.lit (.bool false)], args := [d1, d2] }
  | _ => none }
def DomEditsWrongFalsely : Prop := domEditsRow.holds Tryd.pinned (OpenSpec.ofChange domEditsWrong)

/-- 'clerestorylaw1.DomAll': WHATEVER THE INPUT: true; the input reads as it did. -/
def domAllSpec : ChangeSpec := { name := "domAll", fn := fun _ => fun
  | [d1, d2] => { results := [.lit (.bool true)], args := [d1, d2] }
  | _ => none }
def domAllRow : OpenClaim := { program := "ythjnallbbhnndaadoor", sum := "f893ce0445f52e32c6b76547df1930991a18ccca797a344a1ae4d4af11fbb3f7", func := "clerestory/clerestorylaw1.DomAll", spec := "domAll", inPlace := ["internal/bytealg.IndexByteString", "internal/bytealg.IndexString", "slices.overlaps[int]"], unfollowed := true, recurses := true, named := ["unicode/utf8.first", "unicode/utf8.acceptRanges", "internal/bytealg.MaxLen"], apart := false, laid := [("unicode/utf8.acceptRanges", laid_unicode_utf8_acceptRanges), ("unicode/utf8.first", laid_unicode_utf8_first)] }
def DomAllSaid : Prop := domAllRow.holds Tryd.pinned (OpenSpec.ofChange domAllSpec)

/-- ITS FALSE NEIGHBOUR: 'it returns false'. Refute it at one input. -/
def domAllWrong : ChangeSpec := { name := "domAll", fn := fun _ => fun
  | [d1, d2] => { results := [.lit (.bool false)], args := [d1, d2] }
  | _ => none }
def DomAllWrongFalsely : Prop := domAllRow.holds Tryd.pinned (OpenSpec.ofChange domAllWrong)

/-- 'clerestorylaw1.DomAsks': WHATEVER THE INPUT: true; the input reads as it did. -/
def domAsksSpec : ChangeSpec := { name := "domAsks", fn := fun _ => fun
  | [d1, d2, d3] => { results := [.lit (.bool true)], args := [d1, d2, d3] }
  | _ => none }
def domAsksRow : OpenClaim := { program := "ythjnallbbhnndaadoor", sum := "f893ce0445f52e32c6b76547df1930991a18ccca797a344a1ae4d4af11fbb3f7", func := "clerestory/clerestorylaw1.DomAsks", spec := "domAsks", inPlace := ["internal/bytealg.IndexByteString", "internal/bytealg.IndexString", "slices.overlaps[int]"], unfollowed := true, recurses := true, named := ["unicode/utf8.first", "unicode/utf8.acceptRanges", "internal/bytealg.MaxLen"], apart := false, laid := [("unicode/utf8.acceptRanges", laid_unicode_utf8_acceptRanges), ("unicode/utf8.first", laid_unicode_utf8_first)] }
def DomAsksSaid : Prop := domAsksRow.holds Tryd.pinned (OpenSpec.ofChange domAsksSpec)

/-- ITS FALSE NEIGHBOUR: 'it returns false'. Refute it at one input. -/
def domAsksWrong : ChangeSpec := { name := "domAsks", fn := fun _ => fun
  | [d1, d2, d3] => { results := [.lit (.bool false)], args := [d1, d2, d3] }
  | _ => none }
def DomAsksWrongFalsely : Prop := domAsksRow.holds Tryd.pinned (OpenSpec.ofChange domAsksWrong)

/-- 'clerestorylaw1.DomCopies': WHATEVER THE INPUT: true; the input reads as it did. -/
def domCopiesSpec : ChangeSpec := { name := "domCopies", fn := fun _ => fun
  | [d1, d2, d3] => { results := [.lit (.bool true)], args := [d1, d2, d3] }
  | _ => none }
def domCopiesRow : OpenClaim := { program := "ythjnallbbhnndaadoor", sum := "f893ce0445f52e32c6b76547df1930991a18ccca797a344a1ae4d4af11fbb3f7", func := "clerestory/clerestorylaw1.DomCopies", spec := "domCopies", inPlace := ["internal/bytealg.IndexByteString", "internal/bytealg.IndexString", "slices.overlaps[int]"], unfollowed := true, recurses := true, named := ["unicode/utf8.first", "unicode/utf8.acceptRanges", "internal/bytealg.MaxLen"], apart := false, laid := [("unicode/utf8.acceptRanges", laid_unicode_utf8_acceptRanges), ("unicode/utf8.first", laid_unicode_utf8_first)] }
def DomCopiesSaid : Prop := domCopiesRow.holds Tryd.pinned (OpenSpec.ofChange domCopiesSpec)

/-- ITS FALSE NEIGHBOUR: 'it returns false'. Refute it at one input. -/
def domCopiesWrong : ChangeSpec := { name := "domCopies", fn := fun _ => fun
  | [d1, d2, d3] => { results := [.lit (.bool false)], args := [d1, d2, d3] }
  | _ => none }
def DomCopiesWrongFalsely : Prop := domCopiesRow.holds Tryd.pinned (OpenSpec.ofChange domCopiesWrong)

/- THE SECOND FORM. 'bulk': how many values and letters a reading holds, each counted each time it is reached (what is shared counts as often as it is met; a slice's spare places count too). A statement '..UptoSaid' is the law's where the arguments, and the package variables that the reading takes, are together of bulk at most 1048576: NARROWER than '..Said'. Prove '..Said' where nothing that the law and all that it calls make is longer than what came in: it says more and counts as full. Else prove '..UptoSaid'. A law counts once. -/
mutual
def uptoBulk {H : Type} : DataW H → Nat
  | .lit (.string bytes) => bytes.length + 1
  | .lit _ => 1
  | .nil => 1
  | .ptr d => uptoBulk d + 1
  | .slice elems spare => uptoBulkAll elems + uptoBulkAll spare + 1
  | .agg parts => uptoBulkAll parts + 1
  | .iface _ d => uptoBulk d + 1
  | .map entries => uptoBulkEntries entries + 1
  | .held _ => 1
def uptoBulkAll {H : Type} : List (DataW H) → Nat
  | [] => 0
  | d :: r => uptoBulk d + uptoBulkAll r
def uptoBulkEntries {H : Type} : List (Lit × DataW H) → Nat
  | [] => 0
  | x :: r => uptoBulkEntry x + uptoBulkEntries r
def uptoBulkEntry {H : Type} : Lit × DataW H → Nat
  | (.string bytes, d) => bytes.length + uptoBulk d + 1
  | (_, d) => uptoBulk d + 1
 end
def uptoSmall : (H : Type) → List (DataW H) → Bool := fun _ ds => decide (uptoBulkAll ds ≤ 1048576)
def OpenSpec.upto (s : _root_.Go.ChangeSpec) : _root_.Go.OpenSpec := { _root_.Go.OpenSpec.ofChange s with cond := some uptoSmall }

/-- 'clerestorylaw1.WalkSteps', WHERE WHAT IT READS IS OF BULK AT MOST 1048576: true; the input reads as it did. -/
def walkStepsUptoRow : OpenClaim := { program := "ythjnallbbhnndaadoor", sum := "f893ce0445f52e32c6b76547df1930991a18ccca797a344a1ae4d4af11fbb3f7", func := "clerestory/clerestorylaw1.WalkSteps", spec := "walkSteps", inPlace := ["internal/bytealg.IndexByteString", "internal/bytealg.IndexString"], unfollowed := true, recurses := true, named := ["unicode/utf8.first", "unicode/utf8.acceptRanges", "internal/bytealg.MaxLen"], apart := false, laid := [("unicode/utf8.acceptRanges", laid_unicode_utf8_acceptRanges), ("unicode/utf8.first", laid_unicode_utf8_first)], narrowed := true }
def WalkStepsUptoSaid : Prop := walkStepsUptoRow.holds Tryd.pinned (OpenSpec.upto walkStepsSpec)

/-- 'clerestorylaw1.WalkPairs', WHERE WHAT IT READS IS OF BULK AT MOST 1048576: true; the input reads as it did. -/
def walkPairsUptoRow : OpenClaim := { program := "ythjnallbbhnndaadoor", sum := "f893ce0445f52e32c6b76547df1930991a18ccca797a344a1ae4d4af11fbb3f7", func := "clerestory/clerestorylaw1.WalkPairs", spec := "walkPairs", inPlace := ["internal/bytealg.IndexByteString", "internal/bytealg.IndexString"], unfollowed := true, recurses := true, named := ["unicode/utf8.first", "unicode/utf8.acceptRanges", "internal/bytealg.MaxLen"], apart := false, laid := [("unicode/utf8.acceptRanges", laid_unicode_utf8_acceptRanges), ("unicode/utf8.first", laid_unicode_utf8_first)], narrowed := true }
def WalkPairsUptoSaid : Prop := walkPairsUptoRow.holds Tryd.pinned (OpenSpec.upto walkPairsSpec)

/-- 'clerestorylaw1.WalkSelects', WHERE WHAT IT READS IS OF BULK AT MOST 1048576: true; the input reads as it did. -/
def walkSelectsUptoRow : OpenClaim := { program := "ythjnallbbhnndaadoor", sum := "f893ce0445f52e32c6b76547df1930991a18ccca797a344a1ae4d4af11fbb3f7", func := "clerestory/clerestorylaw1.WalkSelects", spec := "walkSelects", inPlace := ["internal/bytealg.IndexByteString", "internal/bytealg.IndexString"], unfollowed := true, recurses := true, named := ["unicode/utf8.first", "unicode/utf8.acceptRanges", "internal/bytealg.MaxLen"], apart := false, laid := [("unicode/utf8.acceptRanges", laid_unicode_utf8_acceptRanges), ("unicode/utf8.first", laid_unicode_utf8_first)], narrowed := true }
def WalkSelectsUptoSaid : Prop := walkSelectsUptoRow.holds Tryd.pinned (OpenSpec.upto walkSelectsSpec)

/-- 'clerestorylaw1.SpanCuts', WHERE WHAT IT READS IS OF BULK AT MOST 1048576: true; the input reads as it did. -/
def spanCutsUptoRow : OpenClaim := { program := "ythjnallbbhnndaadoor", sum := "f893ce0445f52e32c6b76547df1930991a18ccca797a344a1ae4d4af11fbb3f7", func := "clerestory/clerestorylaw1.SpanCuts", spec := "spanCuts", inPlace := ["internal/bytealg.IndexByteString", "internal/bytealg.IndexString"], unfollowed := true, recurses := true, named := ["unicode/utf8.first", "unicode/utf8.acceptRanges", "internal/bytealg.MaxLen"], apart := false, laid := [("unicode/utf8.acceptRanges", laid_unicode_utf8_acceptRanges), ("unicode/utf8.first", laid_unicode_utf8_first)], narrowed := true }
def SpanCutsUptoSaid : Prop := spanCutsUptoRow.holds Tryd.pinned (OpenSpec.upto spanCutsSpec)

/-- 'clerestorylaw1.SpanPoints', WHERE WHAT IT READS IS OF BULK AT MOST 1048576: true; the input reads as it did. -/
def spanPointsUptoRow : OpenClaim := { program := "ythjnallbbhnndaadoor", sum := "f893ce0445f52e32c6b76547df1930991a18ccca797a344a1ae4d4af11fbb3f7", func := "clerestory/clerestorylaw1.SpanPoints", spec := "spanPoints", inPlace := ["internal/bytealg.IndexByteString", "internal/bytealg.IndexString"], unfollowed := true, recurses := true, named := ["unicode/utf8.first", "unicode/utf8.acceptRanges", "internal/bytealg.MaxLen"], apart := false, laid := [("unicode/utf8.acceptRanges", laid_unicode_utf8_acceptRanges), ("unicode/utf8.first", laid_unicode_utf8_first)], narrowed := true }
def SpanPointsUptoSaid : Prop := spanPointsUptoRow.holds Tryd.pinned (OpenSpec.upto spanPointsSpec)

/-- 'clerestorylaw1.IndexMakes', WHERE WHAT IT READS IS OF BULK AT MOST 1048576: true; the input reads as it did. -/
def indexMakesUptoRow : OpenClaim := { program := "ythjnallbbhnndaadoor", sum := "f893ce0445f52e32c6b76547df1930991a18ccca797a344a1ae4d4af11fbb3f7", func := "clerestory/clerestorylaw1.IndexMakes", spec := "indexMakes", inPlace := ["internal/bytealg.IndexByteString", "internal/bytealg.IndexString", "slices.overlaps[clerestory/api.HRef]", "slices.overlaps[int]"], unfollowed := true, recurses := true, named := ["unicode/utf8.first", "unicode/utf8.acceptRanges", "internal/bytealg.MaxLen"], apart := false, laid := [("unicode/utf8.acceptRanges", laid_unicode_utf8_acceptRanges), ("unicode/utf8.first", laid_unicode_utf8_first)], narrowed := true }
def IndexMakesUptoSaid : Prop := indexMakesUptoRow.holds Tryd.pinned (OpenSpec.upto indexMakesSpec)

/-- 'clerestorylaw1.IndexAsks', WHERE WHAT IT READS IS OF BULK AT MOST 1048576: true; the input reads as it did. -/
def indexAsksUptoRow : OpenClaim := { program := "ythjnallbbhnndaadoor", sum := "f893ce0445f52e32c6b76547df1930991a18ccca797a344a1ae4d4af11fbb3f7", func := "clerestory/clerestorylaw1.IndexAsks", spec := "indexAsks", inPlace := ["internal/bytealg.IndexByteString", "internal/bytealg.IndexString", "slices.overlaps[clerestory/api.HRef]", "slices.overlaps[int]"], unfollowed := true, recurses := true, named := ["unicode/utf8.first", "unicode/utf8.acceptRanges", "internal/bytealg.MaxLen"], apart := false, laid := [("unicode/utf8.acceptRanges", laid_unicode_utf8_acceptRanges), ("unicode/utf8.first", laid_unicode_utf8_first)], narrowed := true }
def IndexAsksUptoSaid : Prop := indexAsksUptoRow.holds Tryd.pinned (OpenSpec.upto indexAsksSpec)

/-- 'clerestorylaw1.DomChecks', WHERE WHAT IT READS IS OF BULK AT MOST 1048576: true; the input reads as it did. -/
def domChecksUptoRow : OpenClaim := { program := "ythjnallbbhnndaadoor", sum := "f893ce0445f52e32c6b76547df1930991a18ccca797a344a1ae4d4af11fbb3f7", func := "clerestory/clerestorylaw1.DomChecks", spec := "domChecks", inPlace := ["internal/bytealg.IndexByteString", "internal/bytealg.IndexString", "slices.overlaps[int]"], unfollowed := true, recurses := true, named := ["unicode/utf8.first", "unicode/utf8.acceptRanges", "internal/bytealg.MaxLen"], apart := false, laid := [("unicode/utf8.acceptRanges", laid_unicode_utf8_acceptRanges), ("unicode/utf8.first", laid_unicode_utf8_first)], narrowed := true }
def DomChecksUptoSaid : Prop := domChecksUptoRow.holds Tryd.pinned (OpenSpec.upto domChecksSpec)

/-- 'clerestorylaw1.DomEdits', WHERE WHAT IT READS IS OF BULK AT MOST 1048576: true; the input reads as it did. -/
def domEditsUptoRow : OpenClaim := { program := "ythjnallbbhnndaadoor", sum := "f893ce0445f52e32c6b76547df1930991a18ccca797a344a1ae4d4af11fbb3f7", func := "clerestory/clerestorylaw1.DomEdits", spec := "domEdits", inPlace := ["internal/bytealg.IndexByteString", "internal/bytealg.IndexString", "slices.overlaps[int]"], unfollowed := true, recurses := true, named := ["unicode/utf8.first", "unicode/utf8.acceptRanges", "internal/bytealg.MaxLen"], apart := false, laid := [("unicode/utf8.acceptRanges", laid_unicode_utf8_acceptRanges), ("unicode/utf8.first", laid_unicode_utf8_first)], narrowed := true }
def DomEditsUptoSaid : Prop := domEditsUptoRow.holds Tryd.pinned (OpenSpec.upto domEditsSpec)

/-- 'clerestorylaw1.DomAll', WHERE WHAT IT READS IS OF BULK AT MOST 1048576: true; the input reads as it did. -/
def domAllUptoRow : OpenClaim := { program := "ythjnallbbhnndaadoor", sum := "f893ce0445f52e32c6b76547df1930991a18ccca797a344a1ae4d4af11fbb3f7", func := "clerestory/clerestorylaw1.DomAll", spec := "domAll", inPlace := ["internal/bytealg.IndexByteString", "internal/bytealg.IndexString", "slices.overlaps[int]"], unfollowed := true, recurses := true, named := ["unicode/utf8.first", "unicode/utf8.acceptRanges", "internal/bytealg.MaxLen"], apart := false, laid := [("unicode/utf8.acceptRanges", laid_unicode_utf8_acceptRanges), ("unicode/utf8.first", laid_unicode_utf8_first)], narrowed := true }
def DomAllUptoSaid : Prop := domAllUptoRow.holds Tryd.pinned (OpenSpec.upto domAllSpec)

/-- 'clerestorylaw1.DomAsks', WHERE WHAT IT READS IS OF BULK AT MOST 1048576: true; the input reads as it did. -/
def domAsksUptoRow : OpenClaim := { program := "ythjnallbbhnndaadoor", sum := "f893ce0445f52e32c6b76547df1930991a18ccca797a344a1ae4d4af11fbb3f7", func := "clerestory/clerestorylaw1.DomAsks", spec := "domAsks", inPlace := ["internal/bytealg.IndexByteString", "internal/bytealg.IndexString", "slices.overlaps[int]"], unfollowed := true, recurses := true, named := ["unicode/utf8.first", "unicode/utf8.acceptRanges", "internal/bytealg.MaxLen"], apart := false, laid := [("unicode/utf8.acceptRanges", laid_unicode_utf8_acceptRanges), ("unicode/utf8.first", laid_unicode_utf8_first)], narrowed := true }
def DomAsksUptoSaid : Prop := domAsksUptoRow.holds Tryd.pinned (OpenSpec.upto domAsksSpec)

/-- 'clerestorylaw1.DomCopies', WHERE WHAT IT READS IS OF BULK AT MOST 1048576: true; the input reads as it did. -/
def domCopiesUptoRow : OpenClaim := { program := "ythjnallbbhnndaadoor", sum := "f893ce0445f52e32c6b76547df1930991a18ccca797a344a1ae4d4af11fbb3f7", func := "clerestory/clerestorylaw1.DomCopies", spec := "domCopies", inPlace := ["internal/bytealg.IndexByteString", "internal/bytealg.IndexString", "slices.overlaps[int]"], unfollowed := true, recurses := true, named := ["unicode/utf8.first", "unicode/utf8.acceptRanges", "internal/bytealg.MaxLen"], apart := false, laid := [("unicode/utf8.acceptRanges", laid_unicode_utf8_acceptRanges), ("unicode/utf8.first", laid_unicode_utf8_first)], narrowed := true }
def DomCopiesUptoSaid : Prop := domCopiesUptoRow.holds Tryd.pinned (OpenSpec.upto domCopiesSpec)

end Rows
end Go.Proofs.YthjnallbbhnndaaDoor
