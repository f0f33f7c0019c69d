/- The plain law of GraphRings. -/
import Derived.Test.YtlpmolohppoofaaQGraphRings
import Derived.Test.YtlpmolohppoofaaPone10
set_option linter.unusedVariables false
set_option linter.unusedSimpArgs false
set_option linter.unnecessarySimpa false
set_option linter.deprecated false
namespace Go.Proofs.Ytlpmolohppoofaa.Pure
open Go Go.RowKit Go.Proofs.Ytlpmolohppoofaa.Sl Go.Proofs.Ytlpmolohppoofaa.F
theorem ls_ok {l : List ByteArray} (h : l.length * 16 ≤ 140737488351232 ∧ ∀ y ∈ l, y.size ≤ 140737488351232) : lsFits l := ⟨by have := h.1; omega, h.2⟩
theorem fits_ok {m : F.Make} (h : okMake m) : makeFits m where
  ml := by have := h.1.1; simp only [LIM]; omega
  ms := fun x hx => (h.1.2 x hx).1
  rl := by have := h.2.1.1; simp only [LIM]; omega
  rs := fun x hx => by
    have hr := h.2.1.2 x hx
    exact ⟨hr.1, ls_ok hr.2.1, ls_ok hr.2.2.1⟩
  il := by have := h.2.2.1.1; simp only [LIM]; omega
  is := fun x hx => by
    have hr := h.2.2.1.2 x hx
    exact ⟨hr.1, hr.2.1, ls_ok hr.2.2⟩
  sp := by
    have hs := h.2.2.2.1
    exact ⟨ls_ok hs.1, ls_ok hs.2.1, ls_ok hs.2.2.1, ls_ok hs.2.2.2.1, ls_ok hs.2.2.2.2.1, ls_ok hs.2.2.2.2.2.2.2.2.1⟩
  fi := h.2.2.2.2
theorem ring_v (m : F.Make) (fr : List ByteArray) (hf : makeFits m) (hl : lsFits fr) : ∃ r, graph_Ring.v m fr = some r ∧ ((r.2.2 ≠ 0 ∧ r.1 = []) ∨ (r.2.2 = 0 ∧ r.2.1 = false ∧ r.1 = []) ∨ (r.2.2 = 0 ∧ r.2.1 = true ∧ AskOk m fr ∧ RingOk (ND m) (UG m fr) fr r.1)) := by
  rw [graph_Ring.v_eq, asked_v m fr hf hl, Option.bind_some]
  by_cases h : askG m fr = 0
  · have ha := ask_ok h
    obtain ⟨r, h1, h2⟩ := walk_v10 m fr hf ha
    rw [h, show icmp .neq (0 : Int) (0 : Int) = false from rfl, cond_false, h1, Option.bind_some]
    rcases h2 with ⟨h2, _⟩ | ⟨_, h2⟩
    · refine ⟨_, rfl, .inr (.inl ⟨rfl, ?_, h2⟩)⟩
      rw [h2]; rfl
    · refine ⟨_, rfl, .inr (.inr ⟨rfl, ?_, ha, h2⟩)⟩
      exact (gtr_nat _ 0).trans (decide_eq_true (List.length_pos_iff.2 h2.ne))
  · rw [show icmp .neq (askG m fr) (0 : Int) = true by rw [neq_dec, decide_eq_false h]; rfl, cond_true]
    exact ⟨_, rfl, .inl ⟨h, rfl⟩⟩
theorem rings_loop (m : F.Make) (fr r : List ByteArray) (e1 : Bool × Int) (l : List ByteArray) (e2 : Int) (hf : makeFits m) (ha : AskOk m fr) (hr : RingOk (ND m) (UG m fr) fr r) (hl : l.length ≤ 100000) (hm : ∀ x, x ∈ l ↔ Rch (ND m) fr x) (hrl : r.length ≤ 100000) :
    ∀ j : Nat, j ≤ r.length → smithylaw10_GraphRings.l0.v m (r, e1) (l, e2) (j : Int) = some (.ok ()) := fun j hj =>
  up j hj (by rw [smithylaw10_GraphRings.l0.v_eq, lss_nat, decide_eq_false (by simp)]; rfl) (fun j hj ih => by
    have h0 : 0 < r.length := by omega
    rw [smithylaw10_GraphRings.l0.v_eq]
    simp only
    rw [lss_nat, decide_eq_true hj, cond_true, show idx r (0 : Int) = _ from idx_nat h0, Option.bind_some, wrap_nat (by omega), lss_nat]
    have hin : memB l r[j] = true := memB_iff.2 ((hm _).2 (hr.rc _ (List.getElem_mem hj)).1)
    have hnl : (ND m r[j]).length ≤ LIM := by have := nd_len ha.g r[j]; simp only [LIM]; omega
    have hnx : ∃ nx, (bif decide (j + 1 < r.length) then (idx r ((j + 1 : Nat) : Int)).bind fun x28 => some x28 else some r[0]) = some nx ∧ memB (ND m r[j]) nx = true := by
      by_cases h1 : j + 1 < r.length
      · exact ⟨r[j + 1], by rw [decide_eq_true h1, cond_true, idx_nat h1]; rfl, memB_iff.2 (hr.cx j _ _ (List.getElem?_eq_getElem hj) (List.getElem?_eq_getElem h1))⟩
      · exact ⟨r[0], by rw [decide_eq_false h1]; rfl, memB_iff.2 (hr.back _ _ (by
          rw [List.getLast?_eq_getElem?, show r.length - 1 = j by omega]
          exact List.getElem?_eq_getElem hj) (by
          rw [List.head?_eq_getElem?]
          exact List.getElem?_eq_getElem h0))⟩
    obtain ⟨nx, e3, e4⟩ := hnx
    rw [e3, Option.bind_some]
    simp only [idx_nat hj, Option.bind_some, rneeds_v10 m _ hf.rl, has_v _ _ hnl, has_v l _ (show l.length ≤ LIM by simp only [LIM]; omega), hin, e4, ih, Bool.not_true, cond_false])
theorem GraphRings : smithylaw10_GraphRings.Pure := by
  intro m fr hm hfr
  have hf := fits_ok hm
  have hl := ls_ok hfr
  refine (smithylaw10_GraphRings.tends _ _).ex ?_
  obtain ⟨r, h1, h2⟩ := ring_v m fr hf hl
  rw [smithylaw10_GraphRings.v_eq, h1, Option.bind_some]
  rcases h2 with ⟨h2, h3⟩ | ⟨h2, h3, h4⟩ | ⟨h2, h3, ha, hr⟩
  · rw [neq_dec, decide_eq_false h2, h3, speaks10_v]; rfl
  · rw [h2, h3, h4, speaks10_v]; rfl
  · obtain ⟨l, o, g1, _, _, g2, _, g3⟩ := reach_v m fr hf hl ha
    obtain ⟨r1, r2, r3⟩ := r
    simp only at h2 h3 hr
    subst h2
    subst h3
    have hn : r1.length ≠ 0 := fun h => hr.ne (List.eq_nil_of_length_eq_zero h)
    have hrl : r1.length ≤ 100000 := by
      have := hr.ln; exact this
    simp only
    rw [show icmp .neq (0 : Int) (0 : Int) = false from rfl, cond_false, Option.bind_some, Bool.not_true, cond_false, g1, Option.bind_some]
    simp only
    rw [show icmp .neq (0 : Int) (0 : Int) = false from rfl, cond_false, show icmp .eql (r1.length : Int) (0 : Int) = false from (eql_nat _ 0).trans (decide_eq_false hn), Option.bind_some, cond_false, show smithylaw10_GraphRings.l0.v m (r1, true, (0 : Int)) (l, (0 : Int)) (0 : Int) = _ from rings_loop m fr r1 _ l _ hf ha hr g2 g3 hrl 0 (Nat.zero_le _), Option.bind_some, speaks10_v]
    rfl
end Go.Proofs.Ytlpmolohppoofaa.Pure
