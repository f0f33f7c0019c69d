/- The plain law of StaleWoulds. -/
import Derived.Test.YtoemgemfgaooeaaQStaleWoulds
import Derived.Test.YtoemgemfgaooeaaPwould
set_option linter.unusedVariables false
set_option linter.unusedSimpArgs false
set_option linter.unnecessarySimpa false
set_option linter.deprecated false
namespace Go.Proofs.Ytoemgemfgaooeaa.Pure
open Go Go.RowKit Go.Proofs.Ytoemgemfgaooeaa.Sl Go.Proofs.Ytoemgemfgaooeaa.F
theorem fits_ok {p : Plan} (h : okPlan p) : planFits p where
  nl := by have := h.1.1; simp only [LIM]; omega
  n := fun x hx => by
    have hn := h.1.2 x hx
    refine ⟨hn.1, ?_, hn.2.1.2, ?_⟩
    · have := hn.2.1.1; simp only [LIM]; omega
    · have := hn.2.2.1.1; simp only [LIM]; omega
  gl := by have := h.2.1; simp only [LIM]; omega
  g := fun x hx => h.2.2 x hx
theorem disk_ok {d : Disk} (h : okDisk d) : diskFits d where
  nl := by have := h.2.1; simp only [LIM]; omega
  n := fun x hx => (h.2.2 x hx).1
theorem StaleWoulds : smithylaw13_StaleWoulds.Pure := by
  intro x0 x1 h0 h1
  have hp := fits_ok h0
  have hf := disk_ok h1
  refine (smithylaw13_StaleWoulds.tends x0 x1).ex ?_
  rw [smithylaw13_StaleWoulds.v_eq, swould_v x0 hp x1 hf, Option.bind_some, rwould_v x0 hp x1 hf, Option.bind_some, small_v]
  have hl : (wouldL x0 x1).length ≤ LIM := by
    have := wouldR_len x1 (phs x0.Nodes) x0.Nodes []
    have h2 := hp.nl
    simp only [wouldL, LIM, List.length_nil] at *; omega
  cases planOk x0 with
  | false => rw [cond_false, texts_v _ (Nat.zero_le _)]; rfl
  | true =>
    cases diskOk x1 with
    | false => rw [cond_true, cond_false, texts_v _ (Nat.zero_le _)]; rfl
    | true => rw [cond_true, cond_true, texts_v _ hl]; rfl
end Go.Proofs.Ytoemgemfgaooeaa.Pure
