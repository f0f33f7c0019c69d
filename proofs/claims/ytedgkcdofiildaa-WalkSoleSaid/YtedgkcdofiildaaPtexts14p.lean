/- Chapter 14: texts, the example, what is asked. -/
import Derived.Test.YtedgkcdofiildaaPwalkp
set_option linter.unusedVariables false
set_option linter.unusedSimpArgs false
set_option linter.unnecessarySimpa false
set_option linter.deprecated false
namespace Go.Proofs.Ytedgkcdofiildaa.F
open Go Go.RowKit Go.Proofs.Ytedgkcdofiildaa.Sl
set_option maxRecDepth 100000 in
theorem speaks_v : smithylaw14_speaks.v = some true := (smithylaw14_speaks.tends).at 40 (by kernel_rfl)
theorem ask_zero {p : Plan} {l : List ByteArray} (h : askR p l = 0) : planOk p = true ∧ ∀ x, x ∈ l → memB (tgts p) x = true := by
  unfold askR at h
  cases h1 : planOk p
  · rw [h1] at h; cases h
  refine ⟨rfl, ?_⟩
  rw [h1] at h
  cases h2 : decide (l.length ≤ 512)
  · rw [h2] at h; cases h
  rw [h2] at h
  cases h3 : l.all nameOk
  · rw [h3] at h; cases h
  rw [h3] at h
  cases h4 : l.all (memB (tgts p))
  · rw [h4] at h; cases h
  exact fun x hx => List.all_eq_true.1 h4 x hx
theorem rightB_new {a : List ByteArray} {n : Node} (h : rightB a n = true) : memB a n.Target = false := by
  unfold rightB at h
  cases hm : memB a n.Target with
  | false => rfl
  | true => rw [hm] at h; simp at h
end Go.Proofs.Ytedgkcdofiildaa.F
