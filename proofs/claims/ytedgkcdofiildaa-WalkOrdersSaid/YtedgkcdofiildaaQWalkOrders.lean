-- written by mp.py (wip/tools), a program of this session, over the kit's print
import Derived.Test.YtedgkcdofiildaaPWalkOrdersx11
import Derived.Test.YtedgkcdofiildaaOpens
namespace Go.Proofs.Ytedgkcdofiildaa.P
open Go.RowKit Go.Proofs.YtedgkcdofiildaaW.PrintWords Go.Proofs.YtedgkcdofiildaaW.PrintLast Go.Proofs.YtedgkcdofiildaaW.PrintMore Go.Proofs.Ytedgkcdofiildaa.Opens
set_option linter.unusedVariables false
def ok48 (x : S48) : Prop := (x.f0.size ≤ 140737488351232) ∧ (((x.f1.length * 16 ≤ 140737488351232 ∧ ∀ y ∈ x.f1, y.size ≤ 140737488351232)) ∧ (((x.f2.length * 16 ≤ 140737488351232 ∧ ∀ y ∈ x.f2, y.size ≤ 140737488351232)) ∧ ((True) ∧ ((x.f4.size ≤ 140737488351232) ∧ ((x.f5.size ≤ 140737488351232) ∧ ((True) ∧ ((True) ∧ ((True) ∧ (True)))))))))
def ok25 (x : S25) : Prop := ((x.f0.length * 112 ≤ 140737488351232 ∧ ∀ y ∈ x.f0, ok48 y)) ∧ ((x.f1.length * 16 ≤ 140737488351232 ∧ ∀ y ∈ x.f1, y.size ≤ 140737488351232))
/-- The pure statement of smithy/smithylaw14.WalkOrders. -/
def smithylaw14_WalkOrders.Pure : Prop := ∀ (x0 : S25) (x1 : List Int), ok25 x0 → (x1.length * 8 ≤ 140737488351232 ∧ ∀ y ∈ x1, (Lit.int .i64 y).wf = true) → ∃ k, smithylaw14_WalkOrders.f k x0.f0 x0.f1 x1 = some true
end Go.Proofs.Ytedgkcdofiildaa.P
