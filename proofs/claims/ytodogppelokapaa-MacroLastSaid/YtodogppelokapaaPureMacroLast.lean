/- For every list of macros and two macros, of one level the last one counts, and the order of unlike names does not matter: no condition beyond what the row reads. -/
import Derived.Test.YtodogppelokapaaZMacroLast
set_option linter.unusedVariables false
set_option linter.unusedSimpArgs false
namespace Go.Proofs.Ytodogppelokapaa.Pure
open Go Go.RowKit Go.Proofs.Ytodogppelokapaa.P Go.Proofs.Ytodogppelokapaa.Ext Go.Proofs.YtodogppelokapaaW.PrintWords Go.Proofs.YtodogppelokapaaW.PrintLast Go.Proofs.YtodogppelokapaaW.PrintMore
theorem go2 (l : List S30) (m n : S30) : allGo l [m, n] = if (defR l m).2 = 0 then (if (defR (defR l m).1 n).2 = 0 then ((defR (defR l m).1 n).1, 0) else ([], (defR (defR l m).1 n).2)) else ([], (defR l m).2) := rfl
theorem go2_ok (l : List S30) (m n : S30) (hg : mcheckR l = 0) : (allGo l [m, n]).2 = 0 ↔ oneR m = 0 ∧ oneR n = 0 ∧ ((mfind l m.f0).isSome = true ∨ l.length < 256) ∧ ((mfind l n.f0).isSome = true ∨ n.f0 = m.f0 ∨ l.length + (if (mfind l m.f0).isSome then 0 else 1) < 256) := by
  rw [go2]
  by_cases h : (defR l m).2 = 0
  · obtain ⟨q1, q2, q3⟩ := define_laws l m hg h
    obtain ⟨o1, o2⟩ := (define_ok l m hg).1 h
    have k := define_ok (defR l m).1 n q1
    have hq : (mfind (defR l m).1 n.f0).isSome = true ↔ (mfind l n.f0).isSome = true ∨ n.f0 = m.f0 := by
      rw [q2]
      by_cases e : n.f0 = m.f0
      · simp [e]
      · simp [e]
    rw [if_pos h]
    have key : (if (defR (defR l m).1 n).2 = 0 then ((defR (defR l m).1 n).1, 0) else (([] : List S30), (defR (defR l m).1 n).2)).2 = 0 ↔ (defR (defR l m).1 n).2 = 0 := by
      by_cases h2 : (defR (defR l m).1 n).2 = 0
      · rw [if_pos h2]; simp [h2]
      · rw [if_neg h2]
    rw [key, k, hq, q3]
    constructor
    · rintro ⟨a, b⟩
      exact ⟨o1, a, o2, by rcases b with (b | b) | b; exact .inl b; exact .inr (.inl b); exact .inr (.inr b)⟩
    · rintro ⟨_, a, _, b⟩
      exact ⟨a, by rcases b with b | b | b; exact .inl (.inl b); exact .inl (.inr b); exact .inr b⟩
  · rw [if_neg h]
    constructor
    · intro h2; exact absurd h2 h
    · rintro ⟨a, _, b, _⟩; exact absurd ((define_ok l m hg).2 ⟨a, b⟩) h
theorem go2_swap (l : List S30) (m n : S30) (hg : mcheckR l = 0) : (allGo l [m, n]).2 = 0 ↔ (allGo l [n, m]).2 = 0 := by
  rw [go2_ok l m n hg, go2_ok l n m hg]
  have hlen := ((mcheck_iff l).1 hg).1
  by_cases e : n.f0 = m.f0
  · rw [e]; simp only [true_or, or_true, and_true]
    constructor
    · rintro ⟨a, b, c⟩; exact ⟨b, a, c⟩
    · rintro ⟨a, b, c⟩; exact ⟨b, a, c⟩
  · have e' : ¬ m.f0 = n.f0 := fun h => e h.symm
    simp only [e, e', false_or]
    cases hm : (mfind l m.f0).isSome <;> cases hn : (mfind l n.f0).isSome <;> simp <;> omega
theorem go2_laws (l : List S30) (m n : S30) (hg : mcheckR l = 0) (h : (allGo l [m, n]).2 = 0) :
    mcheckR (allGo l [m, n]).1 = 0 ∧ (∀ s, mfind (allGo l [m, n]).1 s = if s = n.f0 then some (if n.f0 = m.f0 then (if (mkeep l m).f2 > n.f2 then mkeep l m else n) else mkeep l n) else if s = m.f0 then some (mkeep l m) else mfind l s) := by
  rw [go2] at h ⊢
  by_cases h1 : (defR l m).2 = 0
  · rw [if_pos h1] at h ⊢
    by_cases h2 : (defR (defR l m).1 n).2 = 0
    · rw [if_pos h2]
      obtain ⟨q1, q2, _⟩ := define_laws l m hg h1
      obtain ⟨r1, r2, _⟩ := define_laws _ n q1 h2
      refine ⟨r1, fun s => ?_⟩
      rw [r2, q2]
      have : mkeep (defR l m).1 n = if n.f0 = m.f0 then (if (mkeep l m).f2 > n.f2 then mkeep l m else n) else mkeep l n := by
        conv => lhs; unfold mkeep
        rw [q2]
        by_cases e : n.f0 = m.f0
        · simp only [if_pos e]
        · simp only [if_neg e]; rfl
      rw [this]
    · rw [if_neg h2] at h; exact absurd h h2
  · rw [if_neg h1] at h; exact absurd h h1
theorem mkeep_ge (l : List S30) (m : S30) : (mkeep l m).f2 ≥ m.f2 := by
  unfold mkeep
  split
  · split <;> omega
  · omega
theorem look_level (l : List S30) (s : ByteArray) (hg : mcheckR l = 0) (hn : mname s = true) : (lookR l s).2.2.1 = match mfind l s with | some y => y.f2 | none => 0 := by
  unfold lookR
  rw [if_pos hg, if_pos hn]
  cases mfind l s <;> rfl
theorem MacroLast : smithylaw05_MacroLast.Pure := by
  intro l m n hl hm hn
  refine Ev.rounds ?_
  simp only [smithylaw05_MacroLast.f]
  have em : (⟨m.f0, m.f1, m.f2⟩ : S30) = m := rfl
  have en : (⟨n.f0, n.f1, n.f2⟩ : S30) = n := rfl
  simp only [em, en]
  refine Ev.bind (all_ev l [m, n] (by simp)) ?_
  refine Ev.bind (all_ev l [n, m] (by simp)) ?_
  by_cases hg : mcheckR l = 0
  · simp only [allR, if_pos hg]
    have hsw := go2_swap l m n hg
    by_cases ha : (allGo l [m, n]).2 = 0
    · have hb := hsw.1 ha
      obtain ⟨om, on, _, _⟩ := (go2_ok l m n hg).1 ha
      obtain ⟨q1, q2⟩ := go2_laws l m n hg ha
      obtain ⟨r1, r2⟩ := go2_laws l n m hg hb
      have hnn := oneR_name on
      have hlen := ((mcheck_iff l).1 hg).1
      simp only [if_pos ha, hb]
      refine Ev.step (fun _ => rfl) ?_
      simp only [smithylaw05_MacroLast.j0, bne_self_eq_false, Bool.false_eq_true, if_false]
      by_cases e : m.f0 = n.f0
      · have e2 : m.f0.toList = n.f0.toList := by rw [e]
        simp only [if_pos e2]
        refine Ev.bind (look_ev _ n.f0) ?_
        refine Ev.bind (look_ev l n.f0) ?_
        have hx : mfind (allGo l [m, n]).1 n.f0 = some (if (mkeep l m).f2 > n.f2 then mkeep l m else n) := by rw [q2, if_pos rfl, if_pos e.symm]
        have hy := look_level l n.f0 hg hnn
        obtain ⟨Y, hY⟩ : ∃ Y, lookR l n.f0 = Y := ⟨_, rfl⟩
        rw [hY] at hy ⊢
        obtain ⟨X, hX⟩ : ∃ X, (if (mkeep l m).f2 > n.f2 then mkeep l m else n) = X := ⟨_, rfl⟩
        rw [hX] at hx
        have hlk : lookR (allGo l [m, n]).1 n.f0 = (X.f0, X.f1, X.f2, true, 0) := by
          unfold lookR; rw [if_pos q1, if_pos hnn, hx]
        simp only [hlk]
        have h2 : X.f2 ≥ n.f2 := by rw [← hX]; split <;> omega
        have h1 : X.f2 ≥ m.f2 := by have := mkeep_ge l m; rw [← hX]; split <;> omega
        by_cases hlv : m.f2 = n.f2
        · simp only [if_pos hlv]
          refine Ev.step (fun _ => rfl) ?_
          by_cases hyl : Y.2.2.1 ≤ n.f2
          · have hXn : X = n := by
              have : mkeep l m = m := by
                unfold mkeep
                rw [e]
                rw [hy] at hyl
                cases hf : mfind l n.f0 with
                | none => rfl
                | some y => rw [hf] at hyl; simp only at hyl; simp only [if_neg (show ¬ y.f2 > m.f2 by omega)]
              rw [← hX, this, if_neg (by omega)]
            rw [hXn]
            simp only [smithylaw05_MacroLast.j1, decide_eq_true hyl, if_true, beq_self_eq_true, Bool.and_self]
            exact Ev.bind small_ev (Ev.now _)
          · simp only [smithylaw05_MacroLast.j1, decide_eq_false hyl, Bool.false_eq_true, if_false, if_true, if_pos h2, if_pos h1]
            exact Ev.bind small_ev (Ev.now _)
        · simp only [if_neg hlv]
          refine Ev.step (fun _ => rfl) ?_
          simp only [smithylaw05_MacroLast.j1, Bool.false_eq_true, if_false, if_true, if_pos h2, if_pos h1]
          exact Ev.bind small_ev (Ev.now _)
      · have e2 : ¬ m.f0.toList = n.f0.toList := fun h => e (toList_inj h)
        have hab : (allGo l [m, n]).1 = (allGo l [n, m]).1 := by
          refine msorted_ext _ _ ((mcheck_iff _).1 q1).2.2 ((mcheck_iff _).1 r1).2.2 (fun s => ?_)
          have e' : ¬ n.f0 = m.f0 := fun h => e h.symm
          rw [q2, r2]
          by_cases h1 : s = n.f0
          · have h2 : ¬ s = m.f0 := fun h2 => e (h2.symm.trans h1)
            simp only [if_pos h1, if_neg h2, if_neg e']
          · by_cases h2 : s = m.f0
            · simp only [if_neg h1, if_pos h2, if_neg e]
            · simp only [if_neg h1, if_neg h2]
        simp only [if_neg e2, hab]
        refine Ev.bind (macros_ev _ (by have := ((mcheck_iff _).1 r1).1; omega)) ?_
        simp only [if_true]
        exact Ev.bind small_ev (Ev.now _)
    · have hb : ¬ (allGo l [n, m]).2 = 0 := fun h => ha (hsw.2 h)
      simp only [if_neg ha]
      refine Ev.step (fun _ => rfl) ?_
      have h1 : ((allGo l [m, n]).2 != 0) = true := by simpa using ha
      have h2 : ((allGo l [n, m]).2 != 0) = true := by simpa using hb
      simp only [smithylaw05_MacroLast.j0, if_true, h1, h2, beq_self_eq_true]
      exact Ev.bind small_ev (Ev.now _)
  · simp only [allR, if_neg hg]
    refine Ev.step (fun _ => rfl) ?_
    simp only [smithylaw05_MacroLast.j0, if_true, beq_self_eq_true]
    exact Ev.bind small_ev (Ev.now _)
end Go.Proofs.Ytodogppelokapaa.Pure
