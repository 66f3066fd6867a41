/- Short names for words of the print, so that a claim's texts stay small. No condition. -/
import Derived.Test.YthecjfkafpndoaaWN
import Derived.Test.YthecjfkafpndoaaWLast
import Derived.Test.YthecjfkafpndoaaWMore
import Derived.Test.YthecjfkafpndoaaWNEv
namespace Go.Proofs.Ythecjfkafpndoaa.Short
open Go Go.RowKit Go.Proofs.YthecjfkafpndoaaW.PrintWords Go.Proofs.YthecjfkafpndoaaW.PrintLast Go.Proofs.YthecjfkafpndoaaW.PrintMore
theorem aS {p : Prop} (h : p) : Aside0 p := ⟨h⟩
set_option linter.defProp false
abbrev bA := @below_alloc
abbrev bN := @pw_below_drewN
abbrev bD := @below_drew1
abbrev bS := @below_set
abbrev vA := @Kd.V_alloc
abbrev vN := @Kd.V_drewN
abbrev vD := @Kd.V_drew
abbrev nA := @Kd.N_alloc
abbrev nN := @Kd.N_drewN
abbrev nD := @Kd.N_drew
abbrev rA := @Kd.R_alloc
abbrev rN := @Kd.R_drewN
abbrev rD := @Kd.R_drew
abbrev sA := @Kd.S_alloc
abbrev sN := @Kd.S_drewN
abbrev sD := @Kd.S_drew
abbrev cA := @Kd.C_alloc
abbrev cN := @Kd.C_drewN
abbrev cD := @Kd.C_drew
abbrev kA := @blk_alloc
abbrev kN := @blk_drewN
abbrev kD := @blk_drew
abbrev od := @of_decide_eq_true
abbrev s1 := @List.setIfInBounds_toArray
abbrev s2 := @List.set_cons_zero
abbrev s3 := @List.set_cons_succ
end Go.Proofs.Ythecjfkafpndoaa.Short
