/- For every two lists of macros, macro.All answers as the reference: no condition beyond what the row reads. -/
import Derived.Test.YtodogppelokapaaZMacroAlls
set_option linter.unusedVariables false
set_option linter.unusedSimpArgs false
namespace Go.Proofs.Ytodogppelokapaa.Pure
open Go Go.RowKit Go.Proofs.Ytodogppelokapaa.P Go.Proofs.Ytodogppelokapaa.Ext Go.Proofs.YtodogppelokapaaW.PrintWords Go.Proofs.YtodogppelokapaaW.PrintLast Go.Proofs.YtodogppelokapaaW.PrintMore
theorem MacroAlls : smithylaw05_MacroAlls.Pure := by
  intro l more hl hm
  have h1 : l.length < 3518437208883 := by have := hl.1; omega
  have h2 : more.length ≤ 140737488351232 := by have := hm.1; omega
  refine Ev.rounds ?_
  simp only [smithylaw05_MacroAlls.f]
  refine Ev.bind (all_ev l more h2) ?_
  refine Ev.bind (rall_ev l more h1 h2 hl.2 hm.2) ?_
  refine Ev.bind (macros_ev _ (by have := allR_length l more; omega)) ?_
  simp only [if_true]
  exact Ev.bind small_ev (Ev.now _)
end Go.Proofs.Ytodogppelokapaa.Pure
