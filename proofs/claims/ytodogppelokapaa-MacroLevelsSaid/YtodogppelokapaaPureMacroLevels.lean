/- For every list of macros, a macro and more of them, what was defined above stays: no condition beyond what the row reads. -/
import Derived.Test.YtodogppelokapaaZMacroLevels
set_option linter.unusedVariables false
set_option linter.unusedSimpArgs false
namespace Go.Proofs.Ytodogppelokapaa.Pure
open Go Go.RowKit Go.Proofs.Ytodogppelokapaa.P Go.Proofs.Ytodogppelokapaa.Ext Go.Proofs.YtodogppelokapaaW.PrintWords Go.Proofs.YtodogppelokapaaW.PrintLast Go.Proofs.YtodogppelokapaaW.PrintMore
theorem low_keeps (x : S30) : ∀ (low out : List S30), mcheckR out = 0 → mfind out x.f0 = some x → (∀ y ∈ low, y.f2 < x.f2) → (allGo out low).2 = 0 →
    mcheckR (allGo out low).1 = 0 ∧ mfind (allGo out low).1 x.f0 = some x
  | [], out, hg, hf, _, _ => ⟨hg, hf⟩
  | y :: ys, out, hg, hf, hl, h => by
    simp only [allGo] at h ⊢
    by_cases hd : (defR out y).2 = 0
    · rw [if_pos hd] at h ⊢
      obtain ⟨q1, q2, _⟩ := define_laws out y hg hd
      refine low_keeps x ys _ q1 ?_ (fun z hz => hl z (List.mem_cons_of_mem _ hz)) h
      rw [q2]
      by_cases he : x.f0 = y.f0
      · rw [if_pos he]
        unfold mkeep
        rw [← he, hf]
        simp only [if_pos (show x.f2 > y.f2 from hl y (by simp))]
      · rw [if_neg he]; exact hf
    · rw [if_neg hd] at h; exact absurd h hd
theorem levels_end (k0 : Nat) (a low : List S30) (m x : S30) (hx : x.f0 = m.f0) (hm : mname m.f0 = true) (hg : mcheckR a = 0) (hf : mfind a m.f0 = some x) (hl : ∀ y ∈ low, y.f2 < x.f2) (hlow : low.length ≤ 140737488351232)
    (more : List S30) (n : Int) (hn : ¬ n < n) :
    Ev (fun k => smithylaw05_MacroLevels.l0 k a low more n n m.f0 m.f1 m.f2 x.f0 x.f1 x.f2) true := by
  refine Ev.step (fun _ => rfl) ?_
  simp only [smithylaw05_MacroLevels.l0, if_neg hn]
  refine Ev.bind (all_ev a low hlow) ?_
  simp only [allR, if_pos hg]
  by_cases h : (allGo a low).2 = 0
  · obtain ⟨q1, q2⟩ := low_keeps x low a hg (by rw [hx]; exact hf) hl h
    simp only [if_pos h]
    refine Ev.bind (look_ev _ m.f0) ?_
    rw [hx] at q2
    simp only [lookR, if_pos q1, if_pos hm, q2, if_true, beq_self_eq_true, Bool.and_self]
    exact Ev.bind small_ev (Ev.now _)
  · simp only [if_neg h, allGo_bad low a h, List.length_nil]
    exact Ev.bind small_ev (Ev.now _)
theorem levels_loop (a : List S30) (m x : S30) (hx : x.f0 = m.f0) (hm : mname m.f0 = true) (hg : mcheckR a = 0) (hf : mfind a m.f0 = some x) (more : List S30) (hmore : more.length < 3518437208883) :
    ∀ (suf pre low : List S30), more = pre ++ suf → low.length ≤ pre.length → (∀ y ∈ low, y.f2 < x.f2) →
    Ev (fun k => smithylaw05_MacroLevels.l0 k a low more (more.length : Int) (pre.length : Int) m.f0 m.f1 m.f2 x.f0 x.f1 x.f2) true
  | [], pre, low, e, hlen, hl => by
    have : more.length = pre.length := by rw [e]; simp
    rw [← this]
    exact levels_end 0 a low m x hx hm hg hf hl (by omega) more _ (by omega)
  | y :: ys, pre, low, e, hlen, hl => by
    have hlen2 : more.length = pre.length + (ys.length + 1) := by rw [e]; simp
    have hlt : (pre.length : Int) < (more.length : Int) := by omega
    have hy : rd_T30 more (pre.length : Int) = y := by rw [e]; exact mrd_mid pre y ys
    have hw : wrap64 ((pre.length : Int) + 1) = ((pre ++ [y]).length : Int) := by simp; unfold wrap64; omega
    refine Ev.step (fun _ => rfl) ?_
    simp only [smithylaw05_MacroLevels.l0, if_pos hlt, if_pos (show (0 : Int) ≤ (pre.length : Int) by omega), hy, hw]
    by_cases hc : y.f2 < x.f2
    · simp only [if_pos hc, if_pos (show low.length < 3518437208883 by omega)]
      exact levels_loop a m x hx hm hg hf more hmore ys (pre ++ [y]) (low ++ [y]) (by rw [e]; simp) (by simp; omega) (List.forall_mem_append.2 ⟨hl, by simpa using hc⟩)
    · simp only [if_neg hc]
      exact levels_loop a m x hx hm hg hf more hmore ys (pre ++ [y]) low (by rw [e]; simp) (by simp; omega) hl
theorem MacroLevels : smithylaw05_MacroLevels.Pure := by
  intro l m more hl hm hmore
  have h2 : more.length < 3518437208883 := by have := hmore.1; omega
  refine Ev.rounds ?_
  simp only [smithylaw05_MacroLevels.f]
  refine Ev.bind (define_ev l m) ?_
  by_cases h : (defR l m).2 = 0
  · have hg : mcheckR l = 0 := by
      unfold defR at h
      by_cases hg : mcheckR l = 0
      · exact hg
      · rw [if_neg hg] at h; exact absurd h hg
    obtain ⟨q1, q2, _⟩ := define_laws l m hg h
    have hn := oneR_name ((define_ok l m hg).1 h).1
    have hf : mfind (defR l m).1 m.f0 = some (mkeep l m) := by rw [q2, if_pos rfl]
    have hx := mfind_name hf
    have hk : ¬ (mkeep l m).f2 < m.f2 := by
      unfold mkeep
      split
      · split <;> omega
      · omega
    simp only [if_pos h]
    refine Ev.bind (look_ev _ m.f0) ?_
    simp only [lookR, if_pos q1, if_pos hn, hf, if_true]
    refine Ev.step (fun _ => rfl) ?_
    simp only [smithylaw05_MacroLevels.j0, decide_eq_false hk, Bool.false_eq_true, if_false]
    exact levels_loop _ m (mkeep l m) hx hn q1 hf more h2 more [] [] rfl (Nat.le_refl _) (by simp)
  · simp only [if_neg h, define_bad l m h, List.length_nil]
    exact Ev.bind small_ev (Ev.now _)
end Go.Proofs.Ytodogppelokapaa.Pure
