/- The plain law of WalkPairs. -/
import Derived.Test.YtedgkcdofiildaaQWalkPairs
import Derived.Test.YtedgkcdofiildaaPbelow
set_option linter.unusedVariables false
set_option linter.unusedSimpArgs false
set_option linter.unnecessarySimpa false
set_option linter.deprecated false
namespace Go.Proofs.Ytedgkcdofiildaa.Pure
open Go Go.RowKit Go.Proofs.Ytedgkcdofiildaa.Sl Go.Proofs.Ytedgkcdofiildaa.F
theorem fits_ok {p : Plan} (h : okPlan p) : planFits p where
  nl := by have := h.1.1; simp only [LIM]; omega
  n := fun x hx => by
    have hn := h.1.2 x hx
    refine ⟨hn.1, ?_, hn.2.1.2, ?_⟩
    · have := hn.2.1.1; simp only [LIM]; omega
    · have := hn.2.2.1.1; simp only [LIM]; omega
  gl := by have := h.2.1; simp only [LIM]; omega
  g := fun x hx => h.2.2 x hx
theorem ask_pair (p : Plan) (a b : ByteArray) : askR p [a, b] = (bif planOk p then (bif (nameOk a && !nameOk b) then 3 else (bif icmp .eql (askR p [a]) 0 then askR p [b] else askR p [a])) else askR p [a]) := by
  unfold askR
  simp only [List.length_cons, List.length_nil, List.all_cons, List.all_nil, Bool.and_true, show decide (0 + 1 + 1 ≤ 512) = true by decide, show decide (0 + 1 ≤ 512) = true by decide, cond_true]
  cases planOk p <;> cases nameOk a <;> cases nameOk b <;> cases memB (tgts p) a <;> cases memB (tgts p) b <;> rfl
theorem filter_len (p : Plan) (hf : planFits p) (q : ByteArray → Bool) : ((tgts p).filter q).length ≤ LIM := Nat.le_trans (List.length_filter_le _ _) (tgts_fits p hf).1
theorem one_len {x : ByteArray} : [x].length ≤ LIM := by simp [LIM]
theorem WalkPairs : smithylaw14_WalkPairs.Pure := by
  intro p a b h0 ha hb
  have hf := fits_ok h0
  have hs : ∀ {x : ByteArray}, x.size ≤ LIM → ∀ y, y ∈ [x] → y.size ≤ LIM := fun h y hy => by rw [List.mem_singleton.1 hy]; exact h
  refine (smithylaw14_WalkPairs.tends p a b).ex ?_
  rw [smithylaw14_WalkPairs.v_eq, wBelow_v p hf a ha, Option.bind_some, wAbove_v p hf a ha, Option.bind_some, wApart_v p hf a b ha hb, Option.bind_some, fit_v p hf [a] one_len (hs ha), Option.bind_some, fcheck_v p hf, Option.bind_some, name_v a ha, name_v b hb, fit_v p hf [b] one_len (hs hb), speaks_v]
  simp only [Option.bind_some]
  have hy : (bif icmp .eql (bif planOk p then 0 else 7) 0 then ((bif nameOk a then some (!nameOk b) else some false).bind fun s14 => bif s14 then some 3 else bif icmp .eql (askR p [a]) 0 then some (askR p [b]) else some (askR p [a])) else some (askR p [a])) = some (askR p [a, b]) := by
    rw [ask_pair]
    cases planOk p
    · rfl
    · cases nameOk a <;> cases nameOk b <;> cases icmp .eql (askR p [a]) 0 <;> rfl
  rw [hy]
  simp only [Option.bind_some]
  by_cases h : askR p [a] = 0
  · obtain ⟨hp, hin⟩ := ask_zero h
    have hpa := plan_at hp
    have hma := hin a (by simp)
    rw [if_pos h, if_pos h, h, rBelow_v p hf hpa a hma, rAbove_v p hf hpa a hma]
    simp only [Option.bind_some, texts_v _ (filter_len p hf _)]
    by_cases h2 : askR p [a, b] = 0
    · obtain ⟨_, hin2⟩ := ask_zero h2
      rw [if_pos h2, h2, rApart_v p hf hpa a b hma (hin2 b (by simp))]
      cases apartB p a b <;> rfl
    · rw [if_neg h2]
      have e : icmp .neq (askR p [a, b]) (askR p [a, b]) = false := by simp [icmp]
      have e2 : icmp .neq (askR p [a, b]) 0 = true := by simp [icmp, h2]
      simp only [e, e2]; rfl
  · have h2 : askR p [a, b] ≠ 0 := fun h2 => by
      obtain ⟨hp, hin⟩ := ask_zero h2
      apply h
      rw [ask_pair, hp, cond_true] at h2
      have hm := hin a (by simp)
      unfold askR at h ⊢
      rw [hp] at h ⊢
      simp only [List.length_cons, List.length_nil, List.all_cons, List.all_nil, Bool.and_true, show decide (0 + 1 ≤ 512) = true by decide, cond_true, hm] at h ⊢
      cases hn : nameOk a
      · unfold askR at h2
        rw [hp] at h2
        simp only [List.length_cons, List.length_nil, List.all_cons, List.all_nil, Bool.and_true, show decide (0 + 1 ≤ 512) = true by decide, cond_true, hn] at h2
        cases h2
      · rfl
    rw [if_neg h, if_neg h, if_neg h2]
    have e : icmp .neq (askR p [a, b]) (askR p [a, b]) = false := by simp [icmp]
    have e1 : icmp .neq (askR p [a]) (askR p [a]) = false := by simp [icmp]
    have e2 : icmp .neq (askR p [a]) 0 = true := by simp [icmp, h]
    simp only [e, e1, e2]; rfl
end Go.Proofs.Ytedgkcdofiildaa.Pure
