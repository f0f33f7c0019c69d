-- written by mp.py (wip/tools), a program of this session, over the kit's print
import Derived.Test.YtaeapobjhgakiaaPDiskNewestx10
import Derived.Test.YtaeapobjhgakiaaOpens
namespace Go.Proofs.Ytaeapobjhgakiaa.P
open Go.RowKit Go.Proofs.YtaeapobjhgakiaaW.PrintWords Go.Proofs.YtaeapobjhgakiaaW.PrintLast Go.Proofs.YtaeapobjhgakiaaW.PrintMore Go.Proofs.Ytaeapobjhgakiaa.Opens
set_option linter.unusedVariables false
def ok26 (x : S26) : Prop := (x.f0.size ≤ 140737488351232) ∧ ((x.f1.size ≤ 140737488351232) ∧ ((Lit.int .i64 x.f2).wf = true))
def ok24 (x : S24) : Prop := ((Lit.int .i64 x.f0).wf = true) ∧ ((x.f1.length * 40 ≤ 140737488351232 ∧ ∀ y ∈ x.f1, ok26 y))
/-- The pure statement of smithy/smithylaw02.DiskNewest. -/
def smithylaw02_DiskNewest.Pure : Prop := ∀ (x0 : S24) (x1 : List ByteArray), ok24 x0 → (x1.length * 16 ≤ 140737488351232 ∧ ∀ y ∈ x1, y.size ≤ 140737488351232) → ∃ k, smithylaw02_DiskNewest.f k x0.f0 x0.f1 x1 = some true
end Go.Proofs.Ytaeapobjhgakiaa.P
