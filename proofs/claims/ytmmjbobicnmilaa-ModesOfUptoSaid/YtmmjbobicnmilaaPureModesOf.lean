/- The plain law of ModesOf, for a target of no more than 1048576 needs. -/
import Derived.Test.YtmmjbobicnmilaaQModesOf
import Derived.Test.YtmmjbobicnmilaaPmodes
set_option linter.unusedVariables false
set_option linter.unusedSimpArgs false
set_option linter.unnecessarySimpa false
set_option linter.deprecated false
namespace Go.Proofs.Ytmmjbobicnmilaa.Pure
open Go Go.RowKit Go.Proofs.Ytmmjbobicnmilaa.Sl Go.Proofs.Ytmmjbobicnmilaa.F
theorem ModesOf : smithylaw19_ModesOf.Pure := by
  intro x0 x1 x2 h0 h1 h2 hb
  have hf : optFits x0 := opt_fits h0.2.2.2.2.2.2.2.1 h0.2.2.2.2.2.2.2.2.2 h0.2.2.2.2.2.2.2.2.1.1 (fun y hy => (h0.2.2.2.2.2.2.2.2.1.2 y hy).1)
  have hn : nodeFits x1 := ⟨h1.1, by have := h1.2.1.1; simp only [LIM]; omega, h1.2.1.2, by have := h1.2.2.1.1; simp only [LIM]; omega⟩
  refine (smithylaw19_ModesOf.tends x0 x1 x2).ex ?_
  rw [smithylaw19_ModesOf.v_eq, of_v x0 hf x1 hn (by omega), Option.bind_some, rof_v x0 hf x1 hn, Option.bind_some, touch_v x0 hf x1 hn (by omega), Option.bind_some, rtouch_v x0 hf x1 hn, Option.bind_some, small19_v, eqMode_self]
  have e1 : icmp .eql (ofB x0 x1 x2).2 (ofB x0 x1 x2).2 = true := by unfold icmp; simp
  have e2 : icmp .eql (touchB x0 x1).2 (touchB x0 x1).2 = true := by unfold icmp; simp
  rw [e1, e2]
  cases (touchB x0 x1).1 <;> rfl
end Go.Proofs.Ytmmjbobicnmilaa.Pure
