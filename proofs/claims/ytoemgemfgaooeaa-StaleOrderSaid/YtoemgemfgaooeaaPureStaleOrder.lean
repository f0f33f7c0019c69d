/- The plain law of StaleOrder. -/
import Derived.Test.YtoemgemfgaooeaaQStaleOrder
import Derived.Test.YtoemgemfgaooeaaPwould
set_option linter.unusedVariables false
set_option linter.unusedSimpArgs false
set_option linter.unnecessarySimpa false
set_option linter.deprecated false
namespace Go.Proofs.Ytoemgemfgaooeaa.F
open Go Go.RowKit Go.Proofs.Ytoemgemfgaooeaa.Sl
theorem order_fits {p : Plan} (h : okPlan p) : planFits p where
  nl := by have := h.1.1; simp only [LIM]; omega
  n := fun x hx => by
    have hn := h.1.2 x hx
    refine ⟨hn.1, ?_, hn.2.1.2, ?_⟩
    · have := hn.2.1.1; simp only [LIM]; omega
    · have := hn.2.2.1.1; simp only [LIM]; omega
  gl := by have := h.2.1; simp only [LIM]; omega
  g := fun x hx => h.2.2 x hx
theorem order_disk {d : Disk} (h : okDisk d) : diskFits d where
  nl := by have := h.2.1; simp only [LIM]; omega
  n := fun x hx => (h.2.2 x hx).1
theorem would_app (d : Disk) : ∀ (rest pre : List Node) (out : List ByteArray), ∃ t, wouldP d pre rest out = out ++ t ∧ ∀ x, x ∈ t → x ∈ rest.map (·.Target)
  | [], pre, out => ⟨[], by simp [wouldP], by simp⟩
  | n :: rest, pre, out => by
    simp only [wouldP]
    cases runB n d (fun x => phIn pre x || memB out x) with
    | false =>
      obtain ⟨t, e, ht⟩ := would_app d rest (pre ++ [n]) out
      exact ⟨t, e, fun x hx => by rw [List.map_cons]; exact List.mem_cons_of_mem _ (ht x hx)⟩
    | true =>
      obtain ⟨t, e, ht⟩ := would_app d rest (pre ++ [n]) (out ++ [n.Target])
      refine ⟨n.Target :: t, by rw [cond_true, e, List.append_assoc]; rfl, fun x hx => ?_⟩
      rw [List.map_cons]
      rcases List.mem_cons.1 hx with rfl | hx
      · exact List.mem_cons_self
      · exact List.mem_cons_of_mem _ (ht x hx)
theorem must_loop (l : List ByteArray) (hl : l.length ≤ LIM) (e : Int) (n : Node) (hn : n.Needs.length ≤ LIM) (has : Bool) : ∀ j : Nat, j ≤ n.Needs.length → ∀ b : Bool, smithylaw13_StaleOrder.l1.v (l, e) n has (b, (j : Int)) = some (b || (has && (n.Needs.drop j).any (memB l))) := fun j hj =>
  up j hj (fun b => by rw [smithylaw13_StaleOrder.l1.v_eq, lss_nat, List.drop_length, decide_eq_false (by simp)]; simp) (fun j hj ih b => by
    rw [smithylaw13_StaleOrder.l1.v_eq, lss_nat, decide_eq_true hj, cond_true, idx_nat hj, Option.bind_some, has_v _ _ hl, wrap_nat (by simp [LIM] at hn; omega), drop_cons hj, List.any_cons]
    simp only [Option.bind_some]
    cases b with
    | true => simp only [cond_true, Option.bind_some]; rw [ih]; simp
    | false =>
      cases has with
      | false => simp only [cond_false, Option.bind_some]; rw [ih]; simp
      | true => simp only [cond_false, cond_true, Option.bind_some]; rw [ih]; simp)
theorem order_loop (p : Plan) (hp : planFits p) (hg : Good p.Nodes) (d : Disk) (hf : diskFits d) (l : List ByteArray) (hl : l.length ≤ LIM) (e : Int) : ∀ j : Nat, j ≤ p.Nodes.length → ∀ out : List ByteArray, l = wouldP d (p.Nodes.take j) (p.Nodes.drop j) out →
    smithylaw13_StaleOrder.l0.v p d (l, e) ((out.length : Int), (j : Int)) = some (.ok (l.length : Int)) := fun j hj =>
  up j hj (fun out hw => by
    rw [List.drop_length] at hw
    rw [smithylaw13_StaleOrder.l0.v_eq, lss_nat, decide_eq_false (by simp), hw]; rfl) (fun j hj ih out hw => by
    have hpl := hp.nl
    have hx := hp.n _ (List.getElem_mem hj)
    have hsplit : p.Nodes = p.Nodes.take j ++ p.Nodes[j] :: p.Nodes.drop (j + 1) := by rw [← drop_cons hj, List.take_append_drop]
    obtain ⟨h1, h2, h3⟩ := hg _ _ _ hsplit
    obtain ⟨b1, b2, b3, b4⟩ := nodeB_needs h1
    rw [drop_cons hj] at hw
    simp only [wouldP] at hw
    rw [← take_add hj] at hw
    have hol : out.length ≤ l.length := by
      obtain ⟨t, et, _⟩ := would_app d (p.Nodes.drop j) (p.Nodes.take j) out
      rw [drop_cons hj] at et
      simp only [wouldP] at et
      rw [← take_add hj, ← hw] at et
      rw [et]; simp
    have e4 : icmp .gtr (p.Nodes[j].Recipe.length : Int) (0 : Int) = decide (0 < p.Nodes[j].Recipe.length) := gtr_nat _ 0
    have hwj : IntKind.i64.wrap ((j : Int) + 1) = ((j + 1 : Nat) : Int) := wrap_nat (by simp [LIM] at hpl; omega)
    have hwo : IntKind.i64.wrap ((out.length : Int) + 1) = ((out.length + 1 : Nat) : Int) := wrap_nat (by simp [LIM] at hl; omega)
    -- the needs among the targets that would be made
    have hneed : ∀ x, x ∈ p.Nodes[j].Needs → memB l x = memB out x := fun x hxn => by
      rw [Bool.eq_iff_iff, memB_iff, memB_iff]
      obtain ⟨t, et, ht⟩ := would_app d (p.Nodes.drop j) (p.Nodes.take j) out
      have hl2 : l = out ++ t := by
        rw [drop_cons hj] at et
        simp only [wouldP] at et
        rw [← take_add hj, ← hw] at et
        exact et
      rw [hl2, List.mem_append]
      refine ⟨fun h => h.resolve_right (fun hxt => ?_), .inl⟩
      obtain ⟨m, hm, rfl⟩ := List.mem_map.1 (ht x hxt)
      have hg' : Good (p.Nodes.take j ++ p.Nodes.drop j) := by rw [List.take_append_drop]; exact hg
      exact good_later hg' hm (h3 _ hxn)
    rw [smithylaw13_StaleOrder.l0.v_eq, lss_nat, decide_eq_true hj, cond_true, idx_nat hj, Option.bind_some, lss_nat, rfile_v d hf, e4, hwj]
    simp only [Option.bind_some]
    have hhas : (bif p.Nodes[j].Has then some (decide (0 < p.Nodes[j].Recipe.length)) else some false) = some (p.Nodes[j].Has && decide (0 < p.Nodes[j].Recipe.length)) := by cases p.Nodes[j].Has <;> rfl
    have hmust : ∀ hs : Bool, (bif hs then (bif p.Nodes[j].Phony then some true else some (!(fileOf d.Files p.Nodes[j].Target).isSome)) else some false) = some (hs && (p.Nodes[j].Phony || !(fileOf d.Files p.Nodes[j].Target).isSome)) := fun hs => by cases hs <;> cases p.Nodes[j].Phony <;> rfl
    have must0 : ∀ has b : Bool, smithylaw13_StaleOrder.l1.v (l, e) p.Nodes[j] has (b, (0 : Int)) = some (b || (has && p.Nodes[j].Needs.any (memB l))) := fun has b => by
      have := must_loop l hl e p.Nodes[j] hx.nl has 0 (Nat.zero_le _) b
      rw [List.drop_zero] at this
      exact this
    simp only [hhas, hmust, Option.bind_some, must0]
    have hmem : p.Nodes[j].Needs.any (memB l) = p.Nodes[j].Needs.any (memB out) := by
      rw [Bool.eq_iff_iff, List.any_eq_true, List.any_eq_true]
      exact ⟨fun ⟨x, hx, e⟩ => ⟨x, hx, by rw [← hneed x hx]; exact e⟩, fun ⟨x, hx, e⟩ => ⟨x, hx, by rw [hneed x hx]; exact e⟩⟩
    rw [hmem]
    cases hr : runB p.Nodes[j] d (fun x => phIn (p.Nodes.take j) x || memB out x) with
    | true =>
      rw [hr, cond_true] at hw
      have hrec : 0 < p.Nodes[j].Recipe.length := by
        unfold runB at hr
        simp only [Bool.and_eq_true, decide_eq_true_eq] at hr
        exact hr.2
      obtain ⟨t, et, ht⟩ := would_app d (p.Nodes.drop (j + 1)) (p.Nodes.take (j + 1)) (out ++ [p.Nodes[j].Target])
      have hl2 : l = out ++ p.Nodes[j].Target :: t := by rw [hw, et, List.append_assoc]; rfl
      have hlt : out.length < l.length := by rw [hl2]; simp
      have hget : l[out.length] = p.Nodes[j].Target := by simp only [hl2]; rw [List.getElem_append_right (Nat.le_refl _)]; simp
      have hself : ∀ x : ByteArray, scmp .eql x x = true := fun x => by rw [scmp_eql, decide_eq_true rfl]
      rw [decide_eq_true hlt, cond_true, idx_nat hlt, hget, b4 hrec, decide_eq_true hrec]
      simp only [Option.bind_some, hself, cond_true, Bool.and_true, Bool.not_true, cond_false, Bool.true_and, hwo]
      have := ih (out ++ [p.Nodes[j].Target]) hw
      rw [List.length_append] at this
      cases p.Nodes[j].Phony || !(fileOf d.Files p.Nodes[j].Target).isSome || p.Nodes[j].Needs.any (memB out) <;> exact this
    | false =>
      rw [hr, cond_false] at hw
      obtain ⟨t, et, ht⟩ := would_app d (p.Nodes.drop (j + 1)) (p.Nodes.take (j + 1)) out
      have hl2 : l = out ++ t := by rw [hw, et]
      have hin : (bif decide (out.length < l.length) then (idx l (out.length : Int)).bind fun x19 => some (scmp .eql x19 p.Nodes[j].Target) else some false) = some false := by
        by_cases hlt : out.length < l.length
        · rw [decide_eq_true hlt, cond_true, idx_nat hlt, Option.bind_some, scmp_eql]
          congr 1
          refine decide_eq_false (fun heq => ?_)
          have hmem2 : p.Nodes[j].Target ∈ t := by
            have hlt2 : 0 < t.length := by rw [hl2, List.length_append] at hlt; omega
            have : l[out.length] = t[0] := by simp only [hl2]; rw [List.getElem_append_right (Nat.le_refl _)]; simp
            rw [← heq, this]; exact List.getElem_mem hlt2
          obtain ⟨m, hm, hmt⟩ := List.mem_map.1 (ht _ hmem2)
          have hg' : Good (p.Nodes.take (j + 1) ++ p.Nodes.drop (j + 1)) := by rw [List.take_append_drop]; exact hg
          refine good_later hg' hm ?_
          rw [hmt, take_add hj, List.map_append]
          exact List.mem_append_right _ (by simp)
        · rw [decide_eq_false hlt]; rfl
      rw [hin]
      simp only [Option.bind_some, cond_false]
      have hmf : (p.Nodes[j].Has && decide (0 < p.Nodes[j].Recipe.length) && (p.Nodes[j].Phony || !(fileOf d.Files p.Nodes[j].Target).isSome) || (p.Nodes[j].Has && decide (0 < p.Nodes[j].Recipe.length) && p.Nodes[j].Needs.any (memB out))) = false := by
        by_cases hrec : 0 < p.Nodes[j].Recipe.length
        · unfold runB staleB at hr
          rw [decide_eq_true hrec, Bool.and_true] at hr
          simp only [Bool.or_eq_false_iff] at hr
          obtain ⟨⟨r1, r2⟩, r3⟩ := hr
          have r4 : p.Nodes[j].Needs.any (memB out) = false := by
            rw [List.any_eq_false] at r3 ⊢
            intro x hx hxo
            refine r3 x hx ?_
            simp [badB, hxo]
          rw [r1, r2, r4]; simp
        · rw [decide_eq_false hrec]; simp
      rw [hmf]
      simp only [cond_false, Option.bind_some]
      exact ih out hw)
end Go.Proofs.Ytoemgemfgaooeaa.F
namespace Go.Proofs.Ytoemgemfgaooeaa.Pure
open Go Go.RowKit Go.Proofs.Ytoemgemfgaooeaa.Sl Go.Proofs.Ytoemgemfgaooeaa.F
theorem StaleOrder : smithylaw13_StaleOrder.Pure := by
  intro x0 x1 h0 h1
  have hp := order_fits h0
  have hf := order_disk h1
  refine (smithylaw13_StaleOrder.tends x0 x1).ex ?_
  rw [smithylaw13_StaleOrder.v_eq, swould_v x0 hp x1 hf, Option.bind_some, small_v]
  have hl : (wouldL x0 x1).length ≤ LIM := by
    have := wouldR_len x1 (phs x0.Nodes) x0.Nodes []
    have h2 := hp.nl
    simp only [wouldL, LIM, List.length_nil] at *; omega
  cases h2 : planOk x0 with
  | false => rfl
  | true =>
    cases h3 : diskOk x1 with
    | false => rfl
    | true =>
      have hg := good_of h2
      have e := order_loop x0 hp hg x1 hf (wouldL x0 x1) hl 0 0 (Nat.zero_le _) [] (by
        rw [List.take_zero, List.drop_zero, would_same x1 x0.Nodes hg x0.Nodes [] [] rfl]; rfl)
      simp only [cond_true, show icmp .neq (0 : Int) (0 : Int) = false from rfl, cond_false]
      rw [show smithylaw13_StaleOrder.l0.v x0 x1 (wouldL x0 x1, 0) ((0 : Int), (0 : Int)) = _ from e]
      simp only [Option.bind_some]
      rw [eql_nat, decide_eq_true rfl]; rfl
end Go.Proofs.Ytoemgemfgaooeaa.Pure
