/- The plain law of WalkSole. -/
import Derived.Test.YtedgkcdofiildaaQWalkSole
import Derived.Test.YtedgkcdofiildaaPcount14
set_option linter.unusedVariables false
set_option linter.unusedSimpArgs false
set_option linter.unnecessarySimpa false
set_option linter.deprecated false
namespace Go.Proofs.Ytedgkcdofiildaa.Pure
open Go Go.RowKit Go.Proofs.Ytedgkcdofiildaa.Sl Go.Proofs.Ytedgkcdofiildaa.F
theorem fits_ok {p : Plan} (h : okPlan p) : planFits p where
  nl := by have := h.1.1; simp only [LIM]; omega
  n := fun x hx => by
    have hn := h.1.2 x hx
    refine ⟨hn.1, ?_, hn.2.1.2, ?_⟩
    · have := hn.2.1.1; simp only [LIM]; omega
    · have := hn.2.2.1.1; simp only [LIM]; omega
  gl := by have := h.2.1; simp only [LIM]; omega
  g := fun x hx => h.2.2 x hx
theorem ask_two {p : Plan} (h : planOk p = true) {i k : Nat} (hi : i < p.Nodes.length) (hk : k < p.Nodes.length) : askR p [p.Nodes[i].Target, p.Nodes[k].Target] = 0 := by
  have hn : ∀ j (hj : j < p.Nodes.length), nameOk p.Nodes[j].Target = true := fun j hj => by
    have h1 := (plan_at h).at_ j hj
    unfold rightB nodeB at h1
    simp only [Bool.and_eq_true] at h1
    exact h1.1.1.1.1.1.1.1.1
  unfold askR
  rw [h]
  simp only [List.all_cons, List.all_nil, hn i hi, hn k hk, memB_iff.2 (tgts_get hi), memB_iff.2 (tgts_get hk), Bool.and_true, cond_true]
  rfl
theorem apart_v (p : Plan) (hf : planFits p) (h : planOk p = true) {i k : Nat} (hi : i < p.Nodes.length) (hk : k < p.Nodes.length) : walk_Apart.v p p.Nodes[i].Target p.Nodes[k].Target = some (apartB p p.Nodes[i].Target p.Nodes[k].Target, 0) := by
  rw [wApart_v p hf _ _ (hf.n _ (List.getElem_mem hi)).t (hf.n _ (List.getElem_mem hk)).t, if_pos (ask_two h hi hk)]
theorem sole_l1 (p : Plan) (hf : planFits p) (h : planOk p = true) (b0 : Bool) (i : Nat) (hi : i < p.Nodes.length) : ∀ k : Nat, k ≤ i → ∀ b : Bool, ∃ r : Bool, smithylaw14_WalkSole.l1.v p (b0, (i : Int)) (b, (k : Int)) = some (.ok r) ∧ (r = true ↔ b = true ∨ ∃ j, ∃ hj : j < i, k ≤ j ∧ apartB p p.Nodes[i].Target (p.Nodes[j]'(by omega)).Target = true) := fun k hk =>
  up k hk (fun b => ⟨b, by rw [smithylaw14_WalkSole.l1.v_eq, lss_nat, decide_eq_false (by omega)]; rfl, ⟨.inl, fun h => h.elim id fun ⟨j, hj, hk, _⟩ => absurd hj (by omega)⟩⟩) (fun k hk ih b => by
    have hl := (plan_at h).len
    rw [smithylaw14_WalkSole.l1.v_eq]
    simp only
    rw [lss_nat, decide_eq_true hk, cond_true, Option.bind_some]
    cases b with
    | true => exact ⟨true, rfl, by simp⟩
    | false =>
      obtain ⟨r, h1, h2⟩ := ih (apartB p p.Nodes[i].Target (p.Nodes[k]'(by omega)).Target)
      refine ⟨r, ?_, ?_⟩
      · rw [Bool.not_false, cond_true, idx_nat hi, Option.bind_some, idx_nat (show k < p.Nodes.length by omega), Option.bind_some, apart_v p hf h hi (by omega), Option.bind_some]
        simp only
        rw [show icmp .neq (0 : Int) (0 : Int) = false from rfl, cond_false, wrap_nat (by omega), h1]
      · rw [h2]
        constructor
        · rintro (h3 | ⟨j, hj, hkj, h3⟩)
          · exact .inr ⟨k, hk, Nat.le_refl _, h3⟩
          · exact .inr ⟨j, hj, by omega, h3⟩
        · rintro (h3 | ⟨j, hj, hkj, h3⟩)
          · cases h3
          · rcases Nat.lt_or_ge k j with q | q
            · exact .inr ⟨j, hj, q, h3⟩
            · have : j = k := by omega
              subst this
              exact .inl h3)
theorem sole_l0 (p : Plan) (hf : planFits p) (h : planOk p = true) : ∀ i : Nat, i ≤ p.Nodes.length → ∀ b : Bool, ∃ r : Bool, smithylaw14_WalkSole.l0.v p (b, (i : Int)) = some (.ok r) ∧ (r = true ↔ b = true ∨ ∃ q, ∃ hq : q < p.Nodes.length, i ≤ q ∧ ∃ j, ∃ hj : j < q, apartB p p.Nodes[q].Target (p.Nodes[j]'(by omega)).Target = true) := fun i hi =>
  up i hi (fun b => ⟨b, by rw [smithylaw14_WalkSole.l0.v_eq, lss_nat, decide_eq_false (by omega)]; rfl, ⟨.inl, fun h => h.elim id fun ⟨q, hq, hiq, _⟩ => absurd hq (by omega)⟩⟩) (fun i hi ih b => by
    have hl := (plan_at h).len
    rw [smithylaw14_WalkSole.l0.v_eq]
    simp only
    rw [lss_nat, decide_eq_true hi, cond_true, Option.bind_some]
    cases b with
    | true => exact ⟨true, rfl, by simp⟩
    | false =>
      obtain ⟨r1, g1, g2⟩ := sole_l1 p hf h false i hi 0 (Nat.zero_le _) false
      obtain ⟨r, h1, h2⟩ := ih r1
      refine ⟨r, ?_, ?_⟩
      · rw [Bool.not_false, cond_true, show smithylaw14_WalkSole.l1.v p (false, (i : Int)) (false, (0 : Int)) = _ from g1, Option.bind_some, wrap_nat (by omega)]
        exact h1
      · rw [h2, g2]
        constructor
        · rintro ((h3 | ⟨j, hj, _, h3⟩) | ⟨q, hq, hiq, h3⟩)
          · cases h3
          · exact .inr ⟨i, hi, Nat.le_refl _, j, hj, h3⟩
          · exact .inr ⟨q, hq, by omega, h3⟩
        · rintro (h3 | ⟨q, hq, hiq, h3⟩)
          · cases h3
          · rcases Nat.lt_or_ge i q with k | k
            · exact .inr ⟨q, hq, k, h3⟩
            · have : q = i := by omega
              subst this
              obtain ⟨j, hj, h3⟩ := h3
              exact .inl (.inr ⟨j, hj, Nat.zero_le _, h3⟩))
theorem WalkSole : smithylaw14_WalkSole.Pure := by
  intro p h0
  have hf := fits_ok h0
  refine (smithylaw14_WalkSole.tends _).ex ?_
  rw [smithylaw14_WalkSole.v_eq, fcheck_v p hf, Option.bind_some]
  cases h : planOk p with
  | false => rw [speaks_v]; rfl
  | true =>
    have hp := plan_at h
    obtain ⟨r, h1, h2⟩ := sole_l0 p hf h 0 (Nat.zero_le _) false
    rw [cond_true, show icmp .neq (0 : Int) (0 : Int) = false from rfl, cond_false, count_v p hf h, Option.bind_some, show smithylaw14_WalkSole.l0.v p (false, (0 : Int)) = _ from h1, Option.bind_some, speaks_v]
    have hdn : Dn p [] p.Nodes.length := ⟨(fun x hx => by cases hx), (fun i hi hm => by cases hm), List.nodup_nil, by simp⟩
    by_cases hc : Chain p
    · have hr : r = false := Bool.eq_false_iff.2 fun k => by
        rcases h2.1 k with q | ⟨q, hq, _, j, hj, h3⟩
        · cases q
        · rw [chain_not hp hc hq hj] at h3; cases h3
      rw [cn_one hp hc _ _ _ hdn (by omega), hr]
      rfl
    · have hex : ∃ i, ∃ hi : i + 1 < p.Nodes.length, ¬ p.Nodes[i].Target ∈ p.Nodes[i + 1].Needs := Classical.byContradiction fun k => hc fun i hi => Classical.byContradiction fun q => k ⟨i, hi, q⟩
      obtain ⟨i, hi, hn⟩ := hex
      have hr : r = true := h2.2 (.inr ⟨i + 1, hi, Nat.zero_le _, i, Nat.lt_succ_self i, not_chain hp hi hn⟩)
      rw [cn_two hp p.Nodes.length 0 [] hdn (by omega) (fun x => ⟨(fun k => by cases k), fun ⟨k, hk, k0, _⟩ => absurd k0 (Nat.not_lt_zero _)⟩) ⟨i, hi, Nat.zero_le _, hn⟩, hr]
      rfl
end Go.Proofs.Ytedgkcdofiildaa.Pure
