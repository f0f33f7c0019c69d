-- written by mp.py (wip/tools), a program of this session, over the kit's print
import Derived.Test.YtaeapobjhgakiaaPDiskPutsx10
import Derived.Test.YtaeapobjhgakiaaOpens
namespace Go.Proofs.Ytaeapobjhgakiaa.P
open Go.RowKit Go.Proofs.YtaeapobjhgakiaaW.PrintWords Go.Proofs.YtaeapobjhgakiaaW.PrintLast Go.Proofs.YtaeapobjhgakiaaW.PrintMore Go.Proofs.Ytaeapobjhgakiaa.Opens
set_option linter.unusedVariables false
def ok26 (x : S26) : Prop := (x.f0.size ≤ 140737488351232) ∧ ((x.f1.size ≤ 140737488351232) ∧ ((Lit.int .i64 x.f2).wf = true))
def ok24 (x : S24) : Prop := ((Lit.int .i64 x.f0).wf = true) ∧ ((x.f1.length * 40 ≤ 140737488351232 ∧ ∀ y ∈ x.f1, ok26 y))
/-- The pure statement of smithy/smithylaw02.DiskPuts. -/
def smithylaw02_DiskPuts.Pure : Prop := ∀ (x0 : S24) (x1 : S26), ok24 x0 → ok26 x1 → ∃ k, smithylaw02_DiskPuts.f k x0.f0 x0.f1 x1.f0 x1.f1 x1.f2 = some true
end Go.Proofs.Ytaeapobjhgakiaa.P
