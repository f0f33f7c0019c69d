/- What is reached in a graph. -/
import Derived.Test.YtlpmolohppoofaaPone10
set_option linter.unusedVariables false
set_option linter.unusedSimpArgs false
set_option linter.unnecessarySimpa false
set_option linter.deprecated false
namespace Go.Proofs.Ytlpmolohppoofaa.F
open Go Go.RowKit Go.Proofs.Ytlpmolohppoofaa.Sl
/-! ### what is reached -/
structure RI (N : ByteArray → List ByteArray) (U fr : List ByteArray) (sn : GM Int) (out todo : List ByteArray) : Prop where
  ms : ∀ x, sn.g x = bif memB out x then some 1 else none
  cnt : sn.n = out.length
  nd : out.Nodup
  un : ∀ x, x ∈ out ++ todo → x ∈ U ∧ Rch N fr x
  cl : ∀ x, x ∈ out → ∀ y, y ∈ N x → y ∈ out ∨ y ∈ todo
  fr : ∀ x, x ∈ fr → x ∈ out ∨ x ∈ todo
  tl : todo.length ≤ 512 + 64 * out.length
theorem snoc_of {α : Type} : ∀ {l : List α}, l ≠ [] → ∃ k x, l = k ++ [x]
  | [], h => absurd rfl h
  | x :: l, _ => by
    rcases l.eq_nil_or_concat with rfl | ⟨k, y, rfl⟩
    · exact ⟨[], x, rfl⟩
    · exact ⟨x :: k, y, by simp⟩
theorem reach_loop (of : GM (List ByteArray)) (U fr : List ByteArray) (hg : Grf (ndOf of) U) :
    ∀ n sn out todo, RI (ndOf of) U fr sn out todo → (U.length - out.length) * 66 + todo.length ≤ n → ∃ o, graph_Reach.l0.v of (sn, out, todo) = some o ∧ o.Nodup ∧ o.length ≤ U.length ∧ ∀ x, x ∈ o ↔ Rch (ndOf of) fr x := by
  have hdone : ∀ sn out, RI (ndOf of) U fr sn out [] → ∃ o, graph_Reach.l0.v of (sn, out, []) = some o ∧ o.Nodup ∧ o.length ≤ U.length ∧ ∀ x, x ∈ o ↔ Rch (ndOf of) fr x := fun sn out hd => by
    refine ⟨out, by rw [graph_Reach.l0.v_eq]; rfl, hd.nd, nodup_sub hd.nd (fun x hx => (hd.un x (List.mem_append_left _ hx)).1), fun x => ⟨fun hx => (hd.un x (List.mem_append_left _ hx)).2, fun hx => ?_⟩⟩
    induction hx with
    | base h => exact (hd.fr _ h).resolve_right (fun k => by cases k)
    | step _ h ih => exact (hd.cl _ ih _ h).resolve_right (fun k => by cases k)
  intro n
  induction n with
  | zero =>
    intro sn out todo hd hm
    have : todo = [] := List.eq_nil_of_length_eq_zero (by omega)
    subst this
    exact hdone sn out hd
  | succ n ih =>
    intro sn out todo hd hm
    by_cases ht : todo = []
    · subst ht; exact hdone sn out hd
    · obtain ⟨T, x, rfl⟩ := snoc_of ht
      have hx := hd.un x (by simp)
      have hxs : x.size ≤ LIM := by have := hg.sz _ hx.1; simp only [LIM]; omega
      have hul := hg.ul
      have hcu : out.length ≤ U.length := nodup_sub hd.nd (fun x hx => (hd.un x (List.mem_append_left _ hx)).1)
      have htl := hd.tl
      simp only [List.length_append, List.length_singleton] at htl hm
      rw [graph_Reach.l0.v_eq]
      simp only
      rw [show icmp .gtr (((T ++ [x]).length : Nat) : Int) (0 : Int) = true from (gtr_nat _ 0).trans (decide_eq_true (by simp)), cond_true, top_wrap _ _ (by simp only [LIM]; omega), top_idx, Option.bind_some, inrow_ok (by simp), Option.bind_some, gget_some hxs, Option.bind_some, Int.toNat_natCast, top_take, hd.ms x]
      by_cases ho : x ∈ out
      · rw [memB_iff.2 ho, cond_true, show icmp .eql ((some (1 : Int)).getD 0) 0 = false from rfl, cond_false]
        refine ih sn out T ⟨hd.ms, hd.cnt, hd.nd, fun y hy => hd.un y ?_, fun y hy z hz => ?_, fun y hy => ?_, by omega⟩ (by omega)
        · rcases List.mem_append.1 hy with h | h
          · exact List.mem_append_left _ h
          · exact List.mem_append_right _ (List.mem_append_left _ h)
        · rcases hd.cl y hy z hz with h | h
          · exact .inl h
          · rcases List.mem_append.1 h with h | h
            · exact .inr h
            · rw [List.mem_singleton.1 h]; exact .inl ho
        · rcases hd.fr y hy with h | h
          · exact .inl h
          · rcases List.mem_append.1 h with h | h
            · exact .inr h
            · rw [List.mem_singleton.1 h]; exact .inl ho
      · have hcn := hd.cnt
        have e2 := hg.ln x
        rw [memB_no ho, cond_false, show icmp .eql ((none : Option Int).getD 0) 0 = true from rfl, cond_true, gput_some (by omega) hxs, Option.bind_some, app_ok (by simp only [List.length_singleton]; omega), Option.bind_some, gget_some hxs, Option.bind_some, app_ok (by
          have : ((of.g x).getD []).length ≤ 64 := e2
          omega), Option.bind_some]
        have hd' : RI (ndOf of) U fr ⟨sn.n + 1, fun t => if t = x then some 1 else sn.g t⟩ (out ++ [x]) (T ++ (of.g x).getD []) := by
          refine ⟨fun y => ?_, ?_, ?_, fun y hy => ?_, fun y hy z hz => ?_, fun y hy => ?_, ?_⟩
          · simp only [hd.ms y, memB_app]
            by_cases e : y = x
            · subst e; simp [memB]
            · rw [if_neg e, show memB [x] y = (decide (x = y) || false) from rfl, decide_eq_false (fun k => e k.symm), Bool.or_false, Bool.or_false]
          · simp only [List.length_append, List.length_singleton]; omega
          · refine List.nodup_append.2 ⟨hd.nd, by simp, fun a ha b hb e => ?_⟩
            rw [List.mem_singleton.1 hb] at e
            subst e
            exact ho ha
          · rcases List.mem_append.1 hy with h | h
            · rcases List.mem_append.1 h with h | h
              · exact hd.un y (List.mem_append_left _ h)
              · rw [List.mem_singleton.1 h]; exact hx
            · rcases List.mem_append.1 h with h | h
              · exact hd.un y (List.mem_append_right _ (List.mem_append_left _ h))
              · exact ⟨hg.cl x hx.1 y h, .step hx.2 h⟩
          · rcases List.mem_append.1 hy with h | h
            · rcases hd.cl y h z hz with h | h
              · exact .inl (List.mem_append_left _ h)
              · rcases List.mem_append.1 h with h | h
                · exact .inr (List.mem_append_left _ h)
                · exact .inl (List.mem_append_right _ h)
            · rw [List.mem_singleton.1 h] at hz
              exact .inr (List.mem_append_right _ hz)
          · rcases hd.fr y hy with h | h
            · exact .inl (List.mem_append_left _ h)
            · rcases List.mem_append.1 h with h | h
              · exact .inr (List.mem_append_left _ h)
              · exact .inl (List.mem_append_right _ h)
          · simp only [List.length_append, List.length_singleton]
            have : ((of.g x).getD []).length ≤ 64 := e2
            omega
        refine ih _ _ _ hd' ?_
        have e3 : (out ++ [x]).length ≤ U.length := nodup_sub hd'.nd (fun x hx => (hd'.un x (List.mem_append_left _ hx)).1)
        simp only [List.length_append, List.length_singleton] at e3 ⊢
        have e4 : U.length - out.length = U.length - (out.length + 1) + 1 := by omega
        have e5 : ((of.g x).getD []).length ≤ 64 := e2
        rw [e4] at hm
        omega
theorem sortB_mem (xs : List ByteArray) (x : ByteArray) : x ∈ sortB xs ↔ x ∈ xs := by
  have e : (sortB xs).map toB = (xs.map toB).mergeSort fun x y => decide (x ≤ y) := by
    unfold sortB
    rw [List.map_map]
    exact List.map_id _
  have hp := (List.mergeSort_perm (xs.map toB) fun x y => decide (x ≤ y)).mem_iff (a := toB x)
  rw [← e] at hp
  have h1 : ∀ l : List ByteArray, toB x ∈ l.map toB ↔ x ∈ l := fun l => ⟨fun h => by
    obtain ⟨y, hy, ey⟩ := List.mem_map.1 h
    rw [← toB_inj ey]; exact hy, fun h => List.mem_map.2 ⟨x, h, rfl⟩⟩
  rw [h1, h1] at hp
  exact hp
theorem reach_v (m : Make) (fr : List ByteArray) (hf : makeFits m) (hl : lsFits fr) (h : AskOk m fr) : ∃ l o : List ByteArray, graph_Reach.v m fr = some (l, 0) ∧ l.length = o.length ∧ o.Nodup ∧ l.length ≤ 100000 ∧ (∀ x, x ∈ o ↔ Rch (ND m) fr x) ∧ ∀ x, x ∈ l ↔ Rch (ND m) fr x := by
  obtain ⟨of, h1, h2⟩ := needs_v m hf h.g.nd
  have hg := h.grf
  rw [← h2] at hg
  have hfl := h.ll
  obtain ⟨o, h3, h4, h5, h6⟩ := reach_loop of (UG m fr) fr hg _ gempty [] fr ⟨fun x => rfl, rfl, List.nodup_nil, fun x hx => ⟨List.mem_append_left _ hx, .base hx⟩, (fun x hx => by cases hx), fun x hx => .inr hx, by simp; omega⟩ (Nat.le_refl _)
  have hul := hg.ul
  rw [h2] at h6
  refine ⟨sortB o, o, ?_, sortB_length o, h4, by rw [sortB_length]; omega, h6, fun x => (sortB_mem o x).trans (h6 x)⟩
  have hn := hl.n
  rw [graph_Reach.v_eq, asked_v m fr hf hl, ask_of h.b h.ll h.n, Option.bind_some, show icmp .neq (0 : Int) (0 : Int) = false from rfl, cond_false, h1, Option.bind_some]
  rw [show slices_Clone_string_string.f fr = some fr by
    unfold slices_Clone_string_string.f
    rw [app_ok (by simp; omega), List.nil_append]; rfl, Option.bind_some, h3, Option.bind_some]
  unfold slices_Sort_string_string.f
  rw [show Nat.blt o.length 4611686018427387904 = true from Nat.ble_eq_true_of_le (by omega)]
  rfl
end Go.Proofs.Ytlpmolohppoofaa.F
