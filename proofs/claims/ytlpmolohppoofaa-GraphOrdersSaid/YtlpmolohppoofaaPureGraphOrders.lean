/- The plain law of GraphOrders. -/
import Derived.Test.YtlpmolohppoofaaQGraphOrders
import Derived.Test.YtlpmolohppoofaaPreach10
import Derived.Test.YtlpmolohppoofaaPloadr
set_option linter.unusedVariables false
set_option linter.unusedSimpArgs false
set_option linter.unnecessarySimpa false
set_option linter.deprecated false
namespace Go.Proofs.Ytlpmolohppoofaa.Pure
open Go Go.RowKit Go.Proofs.Ytlpmolohppoofaa.Sl Go.Proofs.Ytlpmolohppoofaa.F
theorem ls_ok {l : List ByteArray} (h : l.length * 16 ≤ 140737488351232 ∧ ∀ y ∈ l, y.size ≤ 140737488351232) : lsFits l := ⟨by have := h.1; omega, h.2⟩
theorem fits_ok {m : F.Make} (h : okMake m) : makeFits m where
  ml := by have := h.1.1; simp only [LIM]; omega
  ms := fun x hx => (h.1.2 x hx).1
  rl := by have := h.2.1.1; simp only [LIM]; omega
  rs := fun x hx => by
    have hr := h.2.1.2 x hx
    exact ⟨hr.1, ls_ok hr.2.1, ls_ok hr.2.2.1⟩
  il := by have := h.2.2.1.1; simp only [LIM]; omega
  is := fun x hx => by
    have hr := h.2.2.1.2 x hx
    exact ⟨hr.1, hr.2.1, ls_ok hr.2.2⟩
  sp := by
    have hs := h.2.2.2.1
    exact ⟨ls_ok hs.1, ls_ok hs.2.1, ls_ok hs.2.2.1, ls_ok hs.2.2.2.1, ls_ok hs.2.2.2.2.1, ls_ok hs.2.2.2.2.2.2.2.2.1⟩
  fi := h.2.2.2.2
theorem orders_l1 (o : List ByteArray) (e : Int) (i : Nat) (hi : i ≤ o.length) (ho : o.length ≤ 100000) (l : List ByteArray) (hl : l.length ≤ 64) (hm : ∀ y, y ∈ l → y ∈ o.take i) :
    ∀ j : Nat, j ≤ l.length → smithylaw10_GraphOrders.l1.v (o, e) (i : Int) l (j : Int) = some (.ok ()) := fun j hj =>
  up j hj (by rw [smithylaw10_GraphOrders.l1.v_eq, lss_nat, decide_eq_false (by simp)]; rfl) (fun j hj ih => by
    rw [smithylaw10_GraphOrders.l1.v_eq]
    simp only
    rw [lss_nat, decide_eq_true hj, cond_true, sub_nat hi, Option.bind_some, idx_nat hj, Option.bind_some, has_v _ _ (by simp only [LIM, List.length_take]; omega), Option.bind_some, memB_iff.2 (hm _ (List.getElem_mem hj)), wrap_nat (by omega), ih]
    rfl)
theorem orders_loop (m : F.Make) (o l : List ByteArray) (e e' : Int) (hf : makeFits m) (hg : MG m) (hn : o.Nodup) (ht : Topo (ND m) o) (ho : o.length ≤ 100000) (hl : l.length ≤ 100000) (hm : ∀ x, x ∈ o → x ∈ l) :
    ∀ j : Nat, j ≤ o.length → smithylaw10_GraphOrders.l0.v m (o, e) (l, e') (j : Int) = some (.ok ()) := fun j hj =>
  up j hj (by rw [smithylaw10_GraphOrders.l0.v_eq, lss_nat, decide_eq_false (by simp)]; rfl) (fun j hj ih => by
    have hnot : ¬ o[j] ∈ o.take j := fun h => by
      obtain ⟨i, hi, e⟩ := List.getElem_of_mem h
      rw [List.length_take] at hi
      rw [List.getElem_take] at e
      exact (List.pairwise_iff_getElem.1 hn i j (by omega) hj (by omega)) e
    rw [smithylaw10_GraphOrders.l0.v_eq]
    simp only
    rw [lss_nat, decide_eq_true hj, cond_true, idx_nat hj, sub_nat (by omega)]
    simp only [Option.bind_some, has_v l _ (show l.length ≤ LIM by simp only [LIM]; omega), memB_iff.2 (hm _ (List.getElem_mem hj)), has_v (o.take j) _ (show (o.take j).length ≤ LIM by simp only [LIM, List.length_take]; omega), memB_no hnot, Bool.not_true, cond_false, rneeds_v10 m _ hf.rl]
    rw [show smithylaw10_GraphOrders.l1.v (o, e) (j : Int) (ND m o[j]) (0 : Int) = _ from orders_l1 o e j (by omega) ho (ND m o[j]) (nd_len hg _) (ht j hj) 0 (Nat.zero_le _), wrap_nat (by omega)]
    exact ih)
theorem GraphOrders : smithylaw10_GraphOrders.Pure := by
  intro m fr hm hfr
  have hf := fits_ok hm
  have hl := ls_ok hfr
  refine (smithylaw10_GraphOrders.tends _ _).ex ?_
  rw [smithylaw10_GraphOrders.v_eq, graph_Order.v_eq, graph_Ring.v_eq, asked_v m fr hf hl, Option.bind_some, Option.bind_some, right_v m hf, rlist_v fr hl]
  by_cases h : askG m fr = 0
  · have ha := ask_ok h
    obtain ⟨w, h1, h2⟩ := walk_v10 m fr hf ha
    obtain ⟨l, o', g1, g2, g3, g4, g5, g6⟩ := reach_v m fr hf hl ha
    have hfl := ha.ll
    rw [h, show icmp .neq (0 : Int) (0 : Int) = false from rfl, cond_false, cond_false, h1, Option.bind_some, Option.bind_some, ha.b, decide_eq_false (show ¬ 512 < fr.length by omega), List.all_eq_true.2 ha.n]
    obtain ⟨o, r⟩ := w
    rcases h2 with ⟨hr, k1, k2, k3, k4, k5⟩ | ⟨ho, hr⟩
    · simp only at hr k1 k2 k3 k4 k5
      subst hr
      have hol : o.length ≤ 100000 := Nat.le_trans (nodup_sub k1 k2) ha.grf.ul
      have hcl : ∀ x, Rch (ND m) fr x → x ∈ o := fun x hx => by
        induction hx with
        | base h => exact k5 _ h
        | step _ h ih =>
          obtain ⟨i, hi, rfl⟩ := List.getElem_of_mem ih
          exact List.mem_of_mem_take (k3 i hi _ h)
      have hlen : o.length = l.length := by
        rw [g2]
        have a1 := nodup_sub k1 (fun x hx => (g5 x).2 (k4 x hx))
        have a2 := nodup_sub g3 (fun x hx => hcl x ((g5 x).1 hx))
        omega
      have hloop : smithylaw10_GraphOrders.l0.v m (o, (0 : Int)) (l, (0 : Int)) (0 : Int) = some (.ok ()) := orders_loop m o l 0 0 hf ha.g k1 k3 hol g4 (fun x hx => (g6 x).2 (k4 x hx)) 0 (Nat.zero_le _)
      have e1 : icmp .neq (o.length : Int) (l.length : Int) = false := by rw [neq_nat, decide_eq_true hlen]; rfl
      simp only [g1, Option.bind_some, speaks10_v, hloop, e1, show icmp .gtr (([] : List ByteArray).length : Int) (0 : Int) = false from rfl, show icmp .neq (([] : List ByteArray).length : Int) (0 : Int) = false from rfl, show icmp .neq (0 : Int) (0 : Int) = false from rfl, cond_false, cond_true, Bool.not_true]
    · simp only at ho hr
      have e1 : icmp .gtr (r.length : Int) (0 : Int) = true := (gtr_nat _ 0).trans (decide_eq_true (List.length_pos_iff.2 hr.ne))
      simp only [e1, cond_true, cond_false, Option.bind_some, speaks10_v, show icmp .neq (0 : Int) (0 : Int) = false from rfl, Bool.not_true, show icmp .eql (100 : Int) (100 : Int) = true from rfl, show icmp .eql (([] : List ByteArray).length : Int) (0 : Int) = true from rfl, show icmp .eql (0 : Int) (0 : Int) = true from rfl]
  · have e1 : icmp .neq (askG m fr) (0 : Int) = true := by rw [neq_dec, decide_eq_false h]; rfl
    have e2 : (bif !makeB m then some true else (some (bif decide (512 < fr.length) then (2 : Int) else bif fr.all nameOk then 0 else 3)).bind fun v10 => some (icmp .neq v10 (0 : Int))) = some true := by
      unfold askG at h
      cases hb : makeB m with
      | false => rfl
      | true =>
        rw [hb] at h
        cases h5 : decide (512 < fr.length) with
        | true => rfl
        | false =>
          rw [h5] at h
          cases h6 : fr.all nameOk with
          | false => rfl
          | true => rw [h6] at h; exact absurd rfl h
    simp only [e1, cond_true, Option.bind_some] at e2 ⊢
    simp only [e2, Option.bind_some, cond_true, e1, Bool.not_false, speaks10_v]
end Go.Proofs.Ytlpmolohppoofaa.Pure
