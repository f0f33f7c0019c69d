/- The plain law of DiskChanged. -/
import Derived.Test.YtaeapobjhgakiaaQDiskChanged
import Derived.Test.YtaeapobjhgakiaaPchanged
set_option linter.unusedVariables false
set_option linter.unusedSimpArgs false
set_option linter.unnecessarySimpa false
set_option linter.deprecated false
namespace Go.Proofs.Ytaeapobjhgakiaa.Pure
open Go Go.RowKit Go.Proofs.Ytaeapobjhgakiaa.Sl Go.Proofs.Ytaeapobjhgakiaa.F
theorem DiskChanged : smithylaw02_DiskChanged.Pure := by
  intro x0 x1 h0 h1
  have f0 : diskFits x0 := { nl := by have := h0.2.1; simp only [LIM]; omega, n := fun x hx => (h0.2.2 x hx).1 }
  have f1 : diskFits x1 := { nl := by have := h1.2.1; simp only [LIM]; omega, n := fun x hx => (h1.2.2 x hx).1 }
  refine (smithylaw02_DiskChanged.tends x0 x1).ex ?_
  obtain ⟨W, e, r1, hl, r2, r3⟩ := rchg_v x0 x1 f0 f1
  obtain ⟨s, s1, s2⟩ := same_v x0 x1 h0.2.1
  rw [smithylaw02_DiskChanged.v_eq, r2, Option.bind_some, r3, Option.bind_some, r1, Option.bind_some]
  simp only
  rw [texts_v W (by simp only [LIM]; omega), s1, s2, speaks02_v]
  have he : icmp .eql e e = true := by unfold icmp; simp
  simp only [Option.bind_some, cond_true, he]
  cases s <;> rfl
end Go.Proofs.Ytaeapobjhgakiaa.Pure
