/- The plain law of WalkBelow. -/
import Derived.Test.YtedgkcdofiildaaQWalkBelow
import Derived.Test.YtedgkcdofiildaaPbelow
set_option linter.unusedVariables false
set_option linter.unusedSimpArgs false
set_option linter.unnecessarySimpa false
set_option linter.deprecated false
namespace Go.Proofs.Ytedgkcdofiildaa.Pure
open Go Go.RowKit Go.Proofs.Ytedgkcdofiildaa.Sl Go.Proofs.Ytedgkcdofiildaa.F
theorem fits_ok {p : Plan} (h : okPlan p) : planFits p where
  nl := by have := h.1.1; simp only [LIM]; omega
  n := fun x hx => by
    have hn := h.1.2 x hx
    refine ⟨hn.1, ?_, hn.2.1.2, ?_⟩
    · have := hn.2.1.1; simp only [LIM]; omega
    · have := hn.2.2.1.1; simp only [LIM]; omega
  gl := by have := h.2.1; simp only [LIM]; omega
  g := fun x hx => h.2.2 x hx
theorem filter_len (p : Plan) (hf : planFits p) (q : ByteArray → Bool) : ((tgts p).filter q).length ≤ LIM := Nat.le_trans (List.length_filter_le _ _) (tgts_fits p hf).1
theorem mem_filt (p : Plan) (q : ByteArray → Bool) {x : ByteArray} (hx : memB (tgts p) x = true) : memB ((tgts p).filter q) x = q x := by
  rw [Bool.eq_iff_iff, memB_iff, List.mem_filter]
  exact ⟨fun h => h.2, fun h => ⟨memB_iff.1 hx, h⟩⟩
theorem ask_one {p : Plan} {a b : ByteArray} (h : askR p [a, b] = 0) : askR p [a] = 0 ∧ askR p [b] = 0 := by
  unfold askR at *
  simp only [List.length_cons, List.length_nil, List.all_cons, List.all_nil, Bool.and_true, show decide (0 + 1 + 1 ≤ 512) = true by decide, show decide (0 + 1 ≤ 512) = true by decide, cond_true] at *
  revert h
  cases planOk p <;> cases nameOk a <;> cases nameOk b <;> cases memB (tgts p) a <;> cases memB (tgts p) b <;> decide
theorem WalkBelow : smithylaw14_WalkBelow.Pure := by
  intro p a b h0 ha hb
  have hf := fits_ok h0
  have hl2 : [a, b].length ≤ LIM := by simp [LIM]
  have hs2 : ∀ x, x ∈ [a, b] → x.size ≤ LIM := fun x hx => by
    rcases List.mem_cons.1 hx with rfl | hx
    · exact ha
    · rw [List.mem_singleton.1 hx]; exact hb
  refine (smithylaw14_WalkBelow.tends p a b).ex ?_
  rw [smithylaw14_WalkBelow.v_eq, fit_v p hf [a, b] hl2 hs2, Option.bind_some, speaks_v]
  by_cases h : askR p [a, b] = 0
  · obtain ⟨hp, hin⟩ := ask_zero h
    obtain ⟨h1, h2⟩ := ask_one h
    have hpa := plan_at hp
    have hma := hin a (by simp)
    have hmb := hin b (by simp)
    rw [wBelow_v p hf a ha, wAbove_v p hf b hb, wBelow_v p hf b hb, wApart_v p hf a b ha hb, if_pos h1, if_pos h2, if_pos h2, if_pos h, h]
    simp only [Option.bind_some, has_v _ _ (filter_len p hf _), mem_filt p _ hma, mem_filt p _ hmb]
    rcases place_v p hf a with ⟨_, i, hi, _, et⟩ | ⟨g, _⟩
    · rcases place_v p hf b with ⟨_, j, hj, _, et'⟩ | ⟨g, _⟩
      · subst et
        subst et'
        have haa : memB (belowL p p.Nodes[i].Target) p.Nodes[i].Target = false := by
          rw [Bool.eq_false_iff]
          intro hm
          obtain ⟨k, hk, e⟩ := belowL_lt p hpa i hi _ (memB_iff.1 hm)
          exact absurd e (hpa.new hi hk)
        have hab : (memB (belowL p p.Nodes[i].Target) p.Nodes[j].Target && memB (belowL p p.Nodes[j].Target) p.Nodes[i].Target) = false := by
          rw [Bool.eq_false_iff]
          intro hm
          rw [Bool.and_eq_true] at hm
          obtain ⟨k, hk, e⟩ := belowL_lt p hpa i hi _ (memB_iff.1 hm.1)
          obtain ⟨k', hk', e'⟩ := belowL_lt p hpa j hj _ (memB_iff.1 hm.2)
          have e1 := hpa.inj hj (show k < p.Nodes.length by omega) e
          have e2 := hpa.inj hi (show k' < p.Nodes.length by omega) e'
          omega
        rw [haa, scmp_neq]
        unfold apartB
        revert hab
        cases decide (p.Nodes[i].Target = p.Nodes[j].Target) <;> cases memB (belowL p p.Nodes[i].Target) p.Nodes[j].Target <;> cases memB (belowL p p.Nodes[j].Target) p.Nodes[i].Target <;> intro hab <;> first | rfl | cases hab
      · rw [g] at hmb; cases hmb
    · rw [g] at hma; cases hma
  · rw [show icmp .neq (askR p [a, b]) 0 = true by simp [icmp, h]]; rfl
end Go.Proofs.Ytedgkcdofiildaa.Pure
