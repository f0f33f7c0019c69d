-- written by mp.py (wip/tools), a program of this session, over the kit's print
import Derived.Test.YtodogppelokapaaPMacroChecksx5
import Derived.Test.YtodogppelokapaaOpens
namespace Go.Proofs.Ytodogppelokapaa.P
open Go.RowKit Go.Proofs.YtodogppelokapaaW.PrintWords Go.Proofs.YtodogppelokapaaW.PrintLast Go.Proofs.YtodogppelokapaaW.PrintMore Go.Proofs.Ytodogppelokapaa.Opens
set_option linter.unusedVariables false
def ok30 (x : S30) : Prop := (x.f0.size ≤ 140737488351232) ∧ ((x.f1.size ≤ 140737488351232) ∧ ((Lit.int .i64 x.f2).wf = true))
/-- The pure statement of smithy/smithylaw05.MacroChecks. -/
def smithylaw05_MacroChecks.Pure : Prop := ∀ (x0 : List (S30)) (x1 : ByteArray), (x0.length * 40 ≤ 140737488351232 ∧ ∀ y ∈ x0, ok30 y) → x1.size ≤ 140737488351232 → ∃ k, smithylaw05_MacroChecks.f k x0 x1 = some true
end Go.Proofs.Ytodogppelokapaa.P
