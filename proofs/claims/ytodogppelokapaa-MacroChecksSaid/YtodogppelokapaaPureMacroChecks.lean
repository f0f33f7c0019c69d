/- For every list of macros and every text, macro.Check and macro.Name answer as the reference: no condition beyond what the row reads. -/
import Derived.Test.YtodogppelokapaaZMacroChecks
set_option linter.unusedVariables false
set_option linter.unusedSimpArgs false
namespace Go.Proofs.Ytodogppelokapaa.Pure
open Go Go.RowKit Go.Proofs.Ytodogppelokapaa.P Go.Proofs.Ytodogppelokapaa.Ext Go.Proofs.YtodogppelokapaaW.PrintWords Go.Proofs.YtodogppelokapaaW.PrintLast Go.Proofs.YtodogppelokapaaW.PrintMore
theorem MacroChecks : smithylaw05_MacroChecks.Pure := by
  intro l s hl hs
  refine Ev.rounds ?_
  simp only [smithylaw05_MacroChecks.f]
  refine Ev.bind (mcheck_ev l) ?_
  refine Ev.bind (rmcheck_ev l hl.2) ?_
  simp only [if_true, macro_Name.f, Option.bind_some]
  refine Ev.bind (rname_ev s hs) ?_
  simp only [beq_self_eq_true, if_true]
  exact Ev.bind small_ev (Ev.now _)
end Go.Proofs.Ytodogppelokapaa.Pure
