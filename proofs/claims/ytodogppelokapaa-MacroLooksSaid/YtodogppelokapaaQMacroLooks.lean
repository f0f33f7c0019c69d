-- written by mp.py (wip/tools), a program of this session, over the kit's print
import Derived.Test.YtodogppelokapaaPMacroLooksx8
import Derived.Test.YtodogppelokapaaOpens
namespace Go.Proofs.Ytodogppelokapaa.P
open Go.RowKit Go.Proofs.YtodogppelokapaaW.PrintWords Go.Proofs.YtodogppelokapaaW.PrintLast Go.Proofs.YtodogppelokapaaW.PrintMore Go.Proofs.Ytodogppelokapaa.Opens
set_option linter.unusedVariables false
def ok30 (x : S30) : Prop := (x.f0.size ≤ 140737488351232) ∧ ((x.f1.size ≤ 140737488351232) ∧ ((Lit.int .i64 x.f2).wf = true))
/-- The pure statement of smithy/smithylaw05.MacroLooks. -/
def smithylaw05_MacroLooks.Pure : Prop := ∀ (x0 : List (S30)) (x1 : ByteArray) (x2 : Int), (x0.length * 40 ≤ 140737488351232 ∧ ∀ y ∈ x0, ok30 y) → x1.size ≤ 140737488351232 → (Lit.int .i64 x2).wf = true → ∃ k, smithylaw05_MacroLooks.f k x0 x1 x2 = some true
end Go.Proofs.Ytodogppelokapaa.P
