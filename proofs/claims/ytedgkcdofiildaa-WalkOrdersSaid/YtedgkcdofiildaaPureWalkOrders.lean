/- For every right plan and at most 256 choices, the plan's order is a whole one, what the choices make is an order, and there is a next target just as long as it is not whole: no condition beyond what the row reads. -/
import Derived.Test.YtedgkcdofiildaaZWalkOrders
set_option linter.unusedVariables false
set_option linter.unusedSimpArgs false
namespace Go.Proofs.Ytedgkcdofiildaa.Pure
open Go Go.RowKit Go.Proofs.Ytedgkcdofiildaa.P Go.Proofs.Ytedgkcdofiildaa.Ext Go.Proofs.YtedgkcdofiildaaW.PrintWords Go.Proofs.YtedgkcdofiildaaW.PrintLast Go.Proofs.YtedgkcdofiildaaW.PrintMore
theorem WalkOrders : smithylaw14_WalkOrders.Pure := by
  intro x0 x1 h0 h1
  obtain ⟨⟨hl0, hn⟩, hl1, hg⟩ := h0
  have hfit : ∀ n ∈ x0.f0, nodeFits n := fun n hm => by
    have h := hn n hm
    exact ⟨h.1, by have := h.2.1.1; omega, h.2.1.2, h.2.2.1.2, h.2.2.2.2.2.1⟩
  have hsz := fitsAll_sizes hg
  have hend : Ev (fun k => smithylaw14_WalkOrders.f k x0.f0 x0.f1 x1) true := by
    simp only [smithylaw14_WalkOrders.f]
    simp only [rcheck_at x0.f0 x0.f1 hfit, Option.bind_some]
    rw [← plan_ref]
    have hbad : Ev (fun k => smithylaw14_WalkOrders.j0 k x1 true x0.f0 x0.f1) true := by
      refine Ev.step (fun _ => rfl) ?_
      simp only [smithylaw14_WalkOrders.j0, if_true]
      exact Ev.bind speaks14_ev (Ev.now _)
    by_cases hp : planR x0.f0 x0.f1 = 0
    · simp only [if_pos hp]
      by_cases hc : (x1.length : Int) > 256
      · simp only [decide_eq_true hc]; exact hbad
      · simp only [decide_eq_false hc]
        refine Ev.step (fun _ => rfl) ?_
        simp only [smithylaw14_WalkOrders.j0, Bool.false_eq_true, if_false]
        have hr := plan_zero hp
        have hok := planR_ok hp
        have hnd : (names0 x0.f0).Nodup := by have := refGo_nodup x0.f0 [] (by simp) hr; simpa using this
        have hcl : ¬ 256 < x1.length := by omega
        have a0 : askedR x0.f0 x0.f1 [] = 0 := asked_of hp (by simp) (fun x hx => by cases hx)
        have a1 : askedR x0.f0 x0.f1 (tgts x0.f0) = 0 := asked_of hp (by unfold tgts; rw [List.length_map]; omega) (fun x hx => hx)
        obtain ⟨c1, c2, c3⟩ := fits_choose x0.f0 hnd x1 [] rfl (fun x hx => by cases hx)
        have e2 : walk_Fits.f x0.f0 x0.f1 (tgts x0.f0) = some (true, true, 0) := by
          unfold walk_Fits.f
          rw [if_pos hsz]
          unfold fitsR
          have h9 := fits_targets x0.f0 hr x0.f0 [] rfl
          rw [show names0 ([] : List S48) = [] from rfl, names0_tgts] at h9
          have h8 : (tgts x0.f0).length = x0.f0.length := by unfold tgts; rw [List.length_map]
          rw [if_pos a1, h9, h8]
          simp
        have e3 : walk_Choose.f x0.f0 x0.f1 x1 = some (chooseGo x0.f0 x1 [], 0) := by
          unfold walk_Choose.f
          rw [if_pos hsz]
          unfold chooseR
          rw [if_pos a0, if_neg hcl]
        generalize chooseGo x0.f0 x1 [] = l at *
        have a2 : askedR x0.f0 x0.f1 l = 0 := asked_of hp (by simp at c3; omega) c2
        have e4 : walk_Fits.f x0.f0 x0.f1 l = some (true, decide (l.length = x0.f0.length), 0) := by
          unfold walk_Fits.f
          rw [if_pos hsz]
          unfold fitsR
          rw [if_pos a2, c1, Bool.true_and]
        have e5 : walk_Next.f x0.f0 x0.f1 l = some (nextR (setR l) x0.f0, 0) := by
          unfold walk_Next.f
          rw [if_pos hsz]
          unfold nxR
          rw [if_pos a2]
        have hnl : l.Nodup := by have := fitsGo_nodup x0.f0 l [] (by simp) c1; simpa using this
        have hiff := next_none x0.f0 hr l hnl c2
        have e1 : Ev (fun k => walk_Order.f k x0.f0 x0.f1) (tgts x0.f0, 0) := by
          simp only [walk_Order.f]
          have : walk_asked.f x0.f0 x0.f1 [] = some 0 := by
            unfold walk_asked.f
            rw [if_pos hsz, a0]
          simp only [this, Option.bind_some, if_true]
          exact Ev.bind (targets_ev x0.f0 x0.f1 (by omega)) (Ev.now _)
        refine Ev.bind e1 ?_
        simp only [e2, e3, e4, e5, Option.bind_some, if_true]
        have t1 : (decide (l.length = x0.f0.length) == (((nextR (setR l) x0.f0).length : Int) == 0)) = true := by
          rw [beq_iff_eq, Bool.eq_iff_iff]
          simp only [decide_eq_true_eq, beq_iff_eq]
          omega
        have t2 : (decide (l.length = x0.f0.length) == ((l.length : Int) == (x0.f0.length : Int))) = true := by
          rw [beq_iff_eq, Bool.eq_iff_iff]
          simp only [decide_eq_true_eq, beq_iff_eq]
          omega
        simp only [t1, t2, if_true]
        exact Ev.bind speaks14_ev (Ev.now _)
    · simp only [if_neg hp]
      exact hbad
  exact hend.rounds
end Go.Proofs.Ytedgkcdofiildaa.Pure
