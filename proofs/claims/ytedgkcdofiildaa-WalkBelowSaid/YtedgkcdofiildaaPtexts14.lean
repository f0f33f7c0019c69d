/- Chapter 14: texts, the example, what is asked. -/
import Derived.Test.YtedgkcdofiildaaPwalk
set_option linter.unusedVariables false
set_option linter.unusedSimpArgs false
set_option linter.unnecessarySimpa false
set_option linter.deprecated false
namespace Go.Proofs.Ytedgkcdofiildaa.F
open Go Go.RowKit Go.Proofs.Ytedgkcdofiildaa.Sl
theorem texts_loop (l : List ByteArray) (hl : l.length ≤ LIM) : ∀ j : Nat, j ≤ l.length → smithyplain_Texts.l0.v l l j = some (.ok ()) := fun j hj =>
  up j hj (by rw [smithyplain_Texts.l0.v_eq, lss_nat, decide_eq_false (by simp)]; rfl) (fun j hj ih => by
    rw [smithyplain_Texts.l0.v_eq, lss_nat, decide_eq_true hj, cond_true, idx_nat hj, Option.bind_some, Option.bind_some, wrap_nat (by simp [LIM] at hl; omega), ih, scmp_neq, decide_eq_true rfl]; rfl)
theorem texts_v (l : List ByteArray) (hl : l.length ≤ LIM) : smithyplain_Texts.v l l = some true := by
  rw [smithyplain_Texts.v_eq, neq_nat, decide_eq_true rfl, show smithyplain_Texts.l0.v l l 0 = _ from texts_loop l hl 0 (Nat.zero_le _)]; rfl
set_option maxRecDepth 100000 in
theorem speaks_v : smithylaw14_speaks.v = some true := (smithylaw14_speaks.tends).at 40 (by kernel_rfl)
theorem ask_zero {p : Plan} {l : List ByteArray} (h : askR p l = 0) : planOk p = true ∧ ∀ x, x ∈ l → memB (tgts p) x = true := by
  unfold askR at h
  cases h1 : planOk p
  · rw [h1] at h; cases h
  refine ⟨rfl, ?_⟩
  rw [h1] at h
  cases h2 : decide (l.length ≤ 512)
  · rw [h2] at h; cases h
  rw [h2] at h
  cases h3 : l.all nameOk
  · rw [h3] at h; cases h
  rw [h3] at h
  cases h4 : l.all (memB (tgts p))
  · rw [h4] at h; cases h
  exact fun x hx => List.all_eq_true.1 h4 x hx
theorem rightB_new {a : List ByteArray} {n : Node} (h : rightB a n = true) : memB a n.Target = false := by
  unfold rightB at h
  cases hm : memB a n.Target with
  | false => rfl
  | true => rw [hm] at h; simp at h
end Go.Proofs.Ytedgkcdofiildaa.F
