/- The plain law of MacroRefs. -/
import Derived.Test.YtodogppelokapaaQMacroRefs
import Derived.Test.YtodogppelokapaaPrefs2
set_option linter.unusedVariables false
set_option linter.unusedSimpArgs false
set_option linter.unnecessarySimpa false
set_option linter.deprecated false
namespace Go.Proofs.Ytodogppelokapaa.Pure
open Go Go.RowKit Go.Proofs.Ytodogppelokapaa.Sl Go.Proofs.Ytodogppelokapaa.F
theorem MacroRefs : smithylaw05_MacroRefs.Pure := by
  intro x0 h0
  refine (smithylaw05_MacroRefs.tends x0).ex ?_
  obtain ⟨R, e, e1, e2, hR⟩ := Refs_v x0
  rw [smithylaw05_MacroRefs.v_eq, e1, Option.bind_some, e2, Option.bind_some]
  simp only
  rw [texts_v R (by simp only [LIM]; omega), small05_v, Option.bind_some, cond_true]
  have he : icmp .eql e e = true := by unfold icmp; simp
  rw [he]; rfl
end Go.Proofs.Ytodogppelokapaa.Pure
