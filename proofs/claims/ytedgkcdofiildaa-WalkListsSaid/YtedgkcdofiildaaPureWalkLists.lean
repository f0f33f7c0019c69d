/- The plain law of WalkLists. -/
import Derived.Test.YtedgkcdofiildaaQWalkLists
import Derived.Test.YtedgkcdofiildaaPfits
set_option linter.unusedVariables false
set_option linter.unusedSimpArgs false
set_option linter.unnecessarySimpa false
set_option linter.deprecated false
namespace Go.Proofs.Ytedgkcdofiildaa.Pure
open Go Go.RowKit Go.Proofs.Ytedgkcdofiildaa.Sl Go.Proofs.Ytedgkcdofiildaa.F
theorem fits_ok {p : Plan} (h : okPlan p) : planFits p where
  nl := by have := h.1.1; simp only [LIM]; omega
  n := fun x hx => by
    have hn := h.1.2 x hx
    refine ⟨hn.1, ?_, hn.2.1.2, ?_⟩
    · have := hn.2.1.1; simp only [LIM]; omega
    · have := hn.2.2.1.1; simp only [LIM]; omega
  gl := by have := h.2.1; simp only [LIM]; omega
  g := fun x hx => h.2.2 x hx
theorem nxR_len (p : Plan) (hf : planFits p) (l : List ByteArray) : (nxR p l).length ≤ LIM := by
  have h1 := List.length_filter_le (nxB l) p.Nodes
  have h2 := hf.nl
  simp [nxR, LIM] at *; omega
theorem WalkLists : smithylaw14_WalkLists.Pure := by
  intro x0 x1 h0 h1
  have hf := fits_ok h0
  have hl : x1.length ≤ LIM := by have := h1.1; simp only [LIM]; omega
  have hs : ∀ x, x ∈ x1 → x.size ≤ LIM := fun x hx => h1.2 x hx
  refine (smithylaw14_WalkLists.tends x0 x1).ex ?_
  rw [smithylaw14_WalkLists.v_eq, wFits_v x0 hf x1 hl hs, Option.bind_some, wNext_v x0 hf x1 hl hs, Option.bind_some, fit_v x0 hf x1 hl hs, Option.bind_some, speaks_v]
  by_cases h : askR x0 x1 = 0
  · obtain ⟨hp, hin⟩ := ask_zero h
    rw [rFits_v x0 hf hp x1 hl hin, rnext_v x0 hf x1 hl, if_pos h, if_pos h, h]
    simp only [Option.bind_some]
    rw [texts_v _ (nxR_len x0 hf x1)]
    cases fitsB x0 [] x1
    · rfl
    · cases decide (x1.length = x0.Nodes.length) <;> rfl
  · rw [if_neg h, if_neg h]
    dsimp only
    have e : icmp .neq (askR x0 x1) (askR x0 x1) = false := by simp [icmp]
    have e2 : icmp .neq (askR x0 x1) 0 = true := by simp [icmp, h]
    rw [e, e2]; rfl
end Go.Proofs.Ytedgkcdofiildaa.Pure
