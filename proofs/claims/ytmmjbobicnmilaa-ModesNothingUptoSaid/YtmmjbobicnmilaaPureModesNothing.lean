/- The plain law of ModesNothing, for a target of no more than 1048576 needs. -/
import Derived.Test.YtmmjbobicnmilaaQModesNothing
import Derived.Test.YtmmjbobicnmilaaPmodes
set_option linter.unusedVariables false
set_option linter.unusedSimpArgs false
set_option linter.unnecessarySimpa false
set_option linter.deprecated false
namespace Go.Proofs.Ytmmjbobicnmilaa.Pure
open Go Go.RowKit Go.Proofs.Ytmmjbobicnmilaa.Sl Go.Proofs.Ytmmjbobicnmilaa.F
theorem ModesNothing : smithylaw19_ModesNothing.Pure := by
  intro x0 x1 x2 h0 h1 h2 hb
  have hf : optFits x0 := opt_fits h0.2.2.2.2.2.2.2.1 h0.2.2.2.2.2.2.2.2.2 h0.2.2.2.2.2.2.2.2.1.1 (fun y hy => (h0.2.2.2.2.2.2.2.2.1.2 y hy).1)
  have hn : nodeFits x1 := ⟨h1.1, by have := h1.2.1.1; simp only [LIM]; omega, h1.2.1.2, by have := h1.2.2.1.1; simp only [LIM]; omega⟩
  refine (smithylaw19_ModesNothing.tends x0 x1 x2).ex ?_
  rw [smithylaw19_ModesNothing.v_eq, of_v x0 hf x1 hn (by omega), Option.bind_some, rchk19_v x0 hf, node_v x1 hn, small19_v]
  have hcnt : chkB x0 = 0 → icmp .gtr (cnt3 x0.Dry x0.Touch x0.Query) (1 : Int) = false := fun h => by
    cases hb : icmp .gtr (cnt3 x0.Dry x0.Touch x0.Query) (1 : Int) with
    | false => rfl
    | true => unfold chkB badO at h; rw [hb, Bool.or_true] at h; cases h
  unfold ofB askB
  by_cases hc : chkB x0 = 0
  · cases hb : nodeB x1 with
    | false => rw [decide_eq_true hc, hc]; rfl
    | true =>
      have hcnt := hcnt hc
      rw [decide_eq_true hc]
      simp only [Bool.not_true, cond_false, cond_true, decide_eq_true rfl, show icmp .neq (0 : Int) (0 : Int) = false from rfl]
      unfold modeB
      obtain ⟨dry, touch, query, keep, ign, sil, slots, files, macros, goals⟩ := x0
      obtain ⟨fi, fs, fa⟩ := x2
      obtain ⟨t, ne, re, ha, so, st, ph, pr, ni, nsl⟩ := x1
      simp only at *
      cases dry <;> cases touch <;> cases query <;> cases fa <;> cases fs <;> cases sil <;> cases nsl <;> cases fi <;> cases ign <;> cases ni <;> rfl
  · rw [decide_eq_false hc]
    have e : icmp .neq (chkB x0) (0 : Int) = true := by rw [neq_dec, decide_eq_false hc]; rfl
    simp only [Bool.not_false, cond_true, decide_eq_false hc, e, Option.bind_some]
    rfl
end Go.Proofs.Ytmmjbobicnmilaa.Pure
