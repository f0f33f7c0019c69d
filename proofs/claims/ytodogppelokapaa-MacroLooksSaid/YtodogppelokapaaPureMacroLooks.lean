/- For every list of macros, a text and a level, macro.Look and macro.Of answer as the reference: no condition beyond what the row reads. -/
import Derived.Test.YtodogppelokapaaZMacroLooks
set_option linter.unusedVariables false
set_option linter.unusedSimpArgs false
namespace Go.Proofs.Ytodogppelokapaa.Pure
open Go Go.RowKit Go.Proofs.Ytodogppelokapaa.P Go.Proofs.Ytodogppelokapaa.Ext Go.Proofs.YtodogppelokapaaW.PrintWords Go.Proofs.YtodogppelokapaaW.PrintLast Go.Proofs.YtodogppelokapaaW.PrintMore
theorem rlook_j1 (l : List S30) (s : ByteArray) (hc : mcheckR l = 0) : Ev (fun k => smithyref05_Look.j1 k l s 0) (match mfind l s with | some y => (y.f0, y.f1, y.f2, true, 0) | none => (⟨#[]⟩, ⟨#[]⟩, 0, false, 0)) := by
  obtain ⟨hlen, _, h4⟩ := (mcheck_iff l).1 hc
  refine Ev.step (fun _ => rfl) ?_
  simp only [smithyref05_Look.j1, if_true]
  rcases mcut_at s l h4 with ⟨A, y, B, e, hy, hA, hB⟩ | ⟨A, B, e, hA, hB⟩
  · have hat : Ev (fun k => smithyref05_at.f k l s) (A.length : Int) := by
      rw [e]
      exact at_ev s A (y :: B) (by rw [← e]; exact hlen) hA (by simp [hy, Less.irrefl])
    have hf : mfind l s = some y := by rw [e]; exact mfind_there s A B y hy hA
    have hr : rd_T30 l (A.length : Int) = y := by rw [e]; exact mrd_mid A y B
    have hlt : (A.length : Int) < (l.length : Int) := by rw [e]; simp; omega
    refine Ev.bind hat ?_
    simp only [if_pos hlt, if_pos (show (0 : Int) ≤ (A.length : Int) by omega), hr, hy, if_true, hf]
    exact Ev.now _
  · have hat : Ev (fun k => smithyref05_at.f k l s) (A.length : Int) := by
      rw [e]
      exact at_ev s A B (by rw [← e]; exact hlen) hA (fun x hx => (hB x (List.mem_of_mem_head? hx)).asymm)
    have hf : mfind l s = none := by rw [e]; exact mfind_not s A B hA hB
    refine Ev.bind hat ?_
    cases B with
    | nil =>
      have hn : ¬ (A.length : Int) < (l.length : Int) := by rw [e]; simp
      simp only [if_neg hn, hf]
      exact Ev.now _
    | cons y B =>
      have hr : rd_T30 l (A.length : Int) = y := by rw [e]; exact mrd_mid A y B
      have hlt : (A.length : Int) < (l.length : Int) := by rw [e]; simp; omega
      have hne : ¬ y.f0.toList = s.toList := fun h => (hB y (by simp)).ne (toList_inj h).symm
      simp only [if_pos hlt, if_pos (show (0 : Int) ≤ (A.length : Int) by omega), hr, if_neg hne, hf]
      exact Ev.now _
theorem rlook_ev (l : List S30) (s : ByteArray) (hl : msmall l) (hs : s.size ≤ 140737488351232) : Ev (fun k => smithyref05_Look.f k l s) (lookR l s) := by
  simp only [smithyref05_Look.f]
  refine Ev.bind (rmcheck_ev l hl) ?_
  unfold lookR
  by_cases hc : mcheckR l = 0
  · simp only [if_pos hc]
    refine Ev.bind (rname_ev s hs) ?_
    refine Ev.step (fun _ => rfl) ?_
    by_cases hn : mname s = true
    · simp only [smithyref05_Look.j0, hn, Bool.not_true, Bool.false_eq_true, if_false, if_true, hc]
      exact rlook_j1 l s hc
    · have hn2 := Bool.eq_false_iff.mpr hn
      simp only [smithyref05_Look.j0, hn2, Bool.not_false, if_true, Bool.false_eq_true, if_false]
      refine Ev.step (fun _ => rfl) ?_
      simp only [smithyref05_Look.j1, if_neg (show ¬ (50 : Int) = 0 by decide)]
      exact Ev.now _
  · simp only [if_neg hc]
    refine Ev.step (fun _ => rfl) ?_
    simp only [smithyref05_Look.j0, Bool.false_eq_true, if_false]
    refine Ev.step (fun _ => rfl) ?_
    simp only [smithyref05_Look.j1, if_neg hc]
    exact Ev.now _
def ofR (l : List S30) (lv : Int) : List S30 × Int := if mcheckR l = 0 then (if lv < 0 then ([], 51) else if lv > 2 then ([], 51) else (l.filter (keepOf lv), 0)) else ([], mcheckR l)
theorem of_ev (l : List S30) (lv : Int) : Ev (fun k => macro_Of.f k l lv) (ofR l lv) := by
  simp only [macro_Of.f]
  refine Ev.bind (mcheck_ev l) ?_
  unfold ofR
  by_cases hc : mcheckR l = 0
  · have hlen := ((mcheck_iff l).1 hc).1
    simp only [if_pos hc]
    by_cases h1 : lv < 0
    · simp only [if_pos h1]; exact Ev.now _
    · simp only [if_neg h1]
      by_cases h2 : lv > 2
      · simp only [if_pos h2]; exact Ev.now _
      · simp only [if_neg h2, if_pos (show l.length < 3518437208883 by omega)]; exact Ev.now _
  · simp only [if_neg hc]; exact Ev.now _
theorem rof_loop (l : List S30) (hl : l.length ≤ 256) (lv : Int) : ∀ (suf pre : List S30), l = pre ++ suf →
    Ev (fun k => smithyref05_Of.l0 k lv (pre.filter (keepOf lv)) l (l.length : Int) (pre.length : Int)) (l.filter (keepOf lv), 0)
  | [], pre, e => by
    refine Ev.step (fun _ => rfl) ?_
    have : l.length = pre.length := by rw [e]; simp
    simp only [smithyref05_Of.l0, if_neg (show ¬ (pre.length : Int) < (l.length : Int) by omega)]
    rw [show l = pre by rw [e]; simp]
    exact Ev.now _
  | x :: xs, pre, e => by
    have hlen : l.length = pre.length + (xs.length + 1) := by rw [e]; simp
    have hlt : (pre.length : Int) < (l.length : Int) := by omega
    have hx : rd_T30 l (pre.length : Int) = x := by rw [e]; exact mrd_mid pre x xs
    have hw : wrap64 ((pre.length : Int) + 1) = ((pre ++ [x]).length : Int) := by simp; unfold wrap64; omega
    have hf := List.length_filter_le (keepOf lv) pre
    have ih := rof_loop l hl lv xs (pre ++ [x]) (by rw [e]; simp)
    have em : (⟨x.f0, x.f1, x.f2⟩ : S30) = x := rfl
    refine Ev.step (fun _ => rfl) ?_
    simp only [smithyref05_Of.l0, if_pos hlt, if_pos (show (0 : Int) ≤ (pre.length : Int) by omega), hx, hw, em]
    by_cases h : x.f2 = lv
    · rw [List.filter_append, List.filter_cons_of_pos (by simp [keepOf, h]), List.filter_nil] at ih
      simp only [if_pos h, if_pos (show (pre.filter (keepOf lv)).length < 3518437208883 by omega)]
      exact ih
    · rw [List.filter_append, List.filter_cons_of_neg (by simp [keepOf, h]), List.filter_nil, List.append_nil] at ih
      simp only [if_neg h]
      exact ih
theorem rof_ev (l : List S30) (lv : Int) (hl : msmall l) : Ev (fun k => smithyref05_Of.f k l lv) (ofR l lv) := by
  simp only [smithyref05_Of.f]
  refine Ev.bind (rmcheck_ev l hl) ?_
  unfold ofR
  by_cases hc : mcheckR l = 0
  · have hlen := ((mcheck_iff l).1 hc).1
    simp only [if_pos hc]
    have bad : Ev (fun k => smithyref05_Of.j0 k l lv (mcheckR l) true) ([], 51) := by
      refine Ev.step (fun _ => rfl) ?_
      simp only [smithyref05_Of.j0, if_true]
      refine Ev.step (fun _ => rfl) ?_
      simp only [smithyref05_Of.j1, if_neg (show ¬ (51 : Int) = 0 by decide)]
      exact Ev.now _
    by_cases h1 : lv < 0
    · simp only [if_pos h1]; exact bad
    · simp only [if_neg h1]
      by_cases h2 : lv > 2
      · simp only [decide_eq_true h2, if_pos h2]; exact bad
      · simp only [decide_eq_false h2, if_neg h2]
        refine Ev.step (fun _ => rfl) ?_
        simp only [smithyref05_Of.j0, Bool.false_eq_true, if_false]
        refine Ev.step (fun _ => rfl) ?_
        simp only [smithyref05_Of.j1, if_pos hc]
        exact rof_loop l hlen lv l [] rfl
  · simp only [if_neg hc]
    refine Ev.step (fun _ => rfl) ?_
    simp only [smithyref05_Of.j0, Bool.false_eq_true, if_false]
    refine Ev.step (fun _ => rfl) ?_
    simp only [smithyref05_Of.j1, if_neg hc]
    exact Ev.now _
theorem ofR_length (l : List S30) (lv : Int) : (ofR l lv).1.length ≤ l.length := by
  have := List.length_filter_le (keepOf lv) l
  unfold ofR
  repeat' split
  all_goals first | (simp; done) | exact this
theorem MacroLooks : smithylaw05_MacroLooks.Pure := by
  intro l s lv hl hs _
  have h3 := ofR_length l lv
  refine Ev.rounds ?_
  simp only [smithylaw05_MacroLooks.f]
  refine Ev.bind (look_ev l s) ?_
  refine Ev.bind (rlook_ev l s hl.2 hs) ?_
  refine Ev.bind (of_ev l lv) ?_
  refine Ev.bind (rof_ev l lv hl.2) ?_
  simp only [beq_self_eq_true, Bool.and_self, if_true]
  refine Ev.bind (macros_ev _ (by have := hl.1; omega)) ?_
  simp only [if_true]
  exact Ev.bind small_ev (Ev.now _)
end Go.Proofs.Ytodogppelokapaa.Pure
