import Derived.Test.YtodogppelokapaaFKx4
set_option linter.unusedVariables false
set_option linter.unusedSimpArgs false
set_option linter.unnecessarySimpa false
set_option linter.deprecated false
namespace Go.Proofs.Ytodogppelokapaa.F
open Go Go.RowKit Go.Proofs.Ytodogppelokapaa.Sl

/-- The pure statement of smithy/smithylaw05.MacroRefs. -/
def smithylaw05_MacroRefs.Pure : Prop := ∀ (x0 : ByteArray), x0.size ≤ 140737488351232 → ∃ k, smithylaw05_MacroRefs.f k x0 = some true
end Go.Proofs.Ytodogppelokapaa.F
