-- written by mp.py (wip/tools), a program of this session, over the kit's print
import Derived.Test.YtodogppelokapaaPMacroLastx6
import Derived.Test.YtodogppelokapaaOpens
namespace Go.Proofs.Ytodogppelokapaa.P
open Go.RowKit Go.Proofs.YtodogppelokapaaW.PrintWords Go.Proofs.YtodogppelokapaaW.PrintLast Go.Proofs.YtodogppelokapaaW.PrintMore Go.Proofs.Ytodogppelokapaa.Opens
set_option linter.unusedVariables false
def ok30 (x : S30) : Prop := (x.f0.size ≤ 140737488351232) ∧ ((x.f1.size ≤ 140737488351232) ∧ ((Lit.int .i64 x.f2).wf = true))
/-- The pure statement of smithy/smithylaw05.MacroLast. -/
def smithylaw05_MacroLast.Pure : Prop := ∀ (x0 : List (S30)) (x1 : S30) (x2 : S30), (x0.length * 40 ≤ 140737488351232 ∧ ∀ y ∈ x0, ok30 y) → ok30 x1 → ok30 x2 → ∃ k, smithylaw05_MacroLast.f k x0 x1.f0 x1.f1 x1.f2 x2.f0 x2.f1 x2.f2 = some true
end Go.Proofs.Ytodogppelokapaa.P
