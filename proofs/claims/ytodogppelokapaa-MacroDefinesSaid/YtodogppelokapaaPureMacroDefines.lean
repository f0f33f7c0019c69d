/- For every list of macros and every macro, macro.Define answers as the reference and shares nothing with its list: no condition beyond what the row reads. -/
import Derived.Test.YtodogppelokapaaZMacroDefines
set_option linter.unusedVariables false
set_option linter.unusedSimpArgs false
namespace Go.Proofs.Ytodogppelokapaa.Pure
open Go Go.RowKit Go.Proofs.Ytodogppelokapaa.P Go.Proofs.Ytodogppelokapaa.Ext Go.Proofs.YtodogppelokapaaW.PrintWords Go.Proofs.YtodogppelokapaaW.PrintLast Go.Proofs.YtodogppelokapaaW.PrintMore
theorem write_loop (l : List S30) (hl : l.length ≤ 140737488351232) (c : Int) : ∀ (n i : Nat) (a : List S30), c = (a.length : Int) → a.length ≤ 1000 → a.length - i = n → i ≤ a.length →
    Ev (fun k => smithylaw05_MacroDefines.l0 k l l a c (i : Int)) true
  | 0, i, a, hc, ha, hn, hi => by
    refine Ev.step (fun _ => rfl) ?_
    simp only [smithylaw05_MacroDefines.l0, if_neg (show ¬ (i : Int) < c by omega)]
    refine Ev.bind (macros_ev l hl) ?_
    simp only [if_true]
    exact Ev.bind small_ev (Ev.now _)
  | n + 1, i, a, hc, ha, hn, hi => by
    have hw : wrap64 ((i : Int) + 1) = ((i + 1 : Nat) : Int) := by unfold wrap64; omega
    refine Ev.step (fun _ => rfl) ?_
    simp only [smithylaw05_MacroDefines.l0, if_pos (show (i : Int) < c by omega), if_pos (show (0 : Int) ≤ (i : Int) by omega), if_pos (show (i : Int) < (a.length : Int) by omega), hw]
    exact write_loop l hl c n (i + 1) _ (by rw [List.length_set]; exact hc) (by rw [List.length_set]; exact ha) (by rw [List.length_set]; omega) (by rw [List.length_set]; omega)
theorem defR_length (l : List S30) (m : S30) : (defR l m).1.length ≤ 257 := by
  have hml := mlay_length l m
  unfold defR defL
  by_cases hc : mcheckR l = 0
  · have := ((mcheck_iff l).1 hc).1
    rw [if_pos hc]
    repeat' split
    all_goals first | (simp; done) | (simp; omega)
  · rw [if_neg hc]; simp
theorem MacroDefines : smithylaw05_MacroDefines.Pure := by
  intro l m hl hm
  have h1 : l.length < 3518437208883 := by have := hl.1; omega
  have hd := defR_length l m
  refine Ev.rounds ?_
  simp only [smithylaw05_MacroDefines.f, smithylaw05_own.f, List.length_nil, Nat.zero_add, if_pos h1, List.nil_append, Option.bind_some]
  refine Ev.bind (define_ev l m) ?_
  refine Ev.bind (rdefine_ev l m hl.2 hm.1) ?_
  refine Ev.bind (macros_ev _ (by omega)) ?_
  simp only [if_true]
  refine Ev.bind (macros_ev l (by omega)) ?_
  refine Ev.step (fun _ => rfl) ?_
  simp only [smithylaw05_MacroDefines.j0, Bool.not_true, Bool.false_eq_true, if_false]
  exact write_loop l (by omega) _ _ 0 _ rfl (by omega) rfl (Nat.zero_le _)
end Go.Proofs.Ytodogppelokapaa.Pure
