-- written by mp.py (wip/tools), a program of this session, over the kit's print
import Derived.Test.YtmmjbobicnmilaaPModesChecksx14
import Derived.Test.YtmmjbobicnmilaaOpens
namespace Go.Proofs.Ytmmjbobicnmilaa.P
open Go.RowKit Go.Proofs.YtmmjbobicnmilaaW.PrintWords Go.Proofs.YtmmjbobicnmilaaW.PrintLast Go.Proofs.YtmmjbobicnmilaaW.PrintMore Go.Proofs.Ytmmjbobicnmilaa.Opens
set_option linter.unusedVariables false
def ok58 (x : S58) : Prop := (x.f0.size ≤ 140737488351232) ∧ ((x.f1.size ≤ 140737488351232) ∧ ((Lit.int .i64 x.f2).wf = true))
def ok25 (x : S25) : Prop := (True) ∧ ((True) ∧ ((True) ∧ ((True) ∧ ((True) ∧ ((True) ∧ (((Lit.int .i64 x.f6).wf = true) ∧ (((x.f7.length * 16 ≤ 140737488351232 ∧ ∀ y ∈ x.f7, y.size ≤ 140737488351232)) ∧ (((x.f8.length * 40 ≤ 140737488351232 ∧ ∀ y ∈ x.f8, ok58 y)) ∧ ((x.f9.length * 16 ≤ 140737488351232 ∧ ∀ y ∈ x.f9, y.size ≤ 140737488351232))))))))))
/-- The pure statement of smithy/smithylaw19.ModesChecks. -/
def smithylaw19_ModesChecks.Pure : Prop := ∀ (x0 : S25), ok25 x0 → ∃ k, smithylaw19_ModesChecks.f k x0.f0 x0.f1 x0.f2 x0.f3 x0.f4 x0.f5 x0.f6 x0.f7 x0.f8 x0.f9 = some true
end Go.Proofs.Ytmmjbobicnmilaa.P
