/- The plain law of GraphDeep. -/
import Derived.Test.YtlpmolohppoofaaQGraphDeep
import Derived.Test.YtlpmolohppoofaaPdeep10
set_option linter.unusedVariables false
set_option linter.unusedSimpArgs false
set_option linter.unnecessarySimpa false
set_option linter.deprecated false
namespace Go.Proofs.Ytlpmolohppoofaa.Pure
open Go Go.RowKit Go.Proofs.Ytlpmolohppoofaa.Sl Go.Proofs.Ytlpmolohppoofaa.F
theorem ls_ok {l : List ByteArray} (h : l.length * 16 ≤ 140737488351232 ∧ ∀ y ∈ l, y.size ≤ 140737488351232) : lsFits l := ⟨by have := h.1; omega, h.2⟩
theorem fits_ok {m : F.Make} (h : okMake m) : makeFits m where
  ml := by have := h.1.1; simp only [LIM]; omega
  ms := fun x hx => (h.1.2 x hx).1
  rl := by have := h.2.1.1; simp only [LIM]; omega
  rs := fun x hx => by
    have hr := h.2.1.2 x hx
    exact ⟨hr.1, ls_ok hr.2.1, ls_ok hr.2.2.1⟩
  il := by have := h.2.2.1.1; simp only [LIM]; omega
  is := fun x hx => by
    have hr := h.2.2.1.2 x hx
    exact ⟨hr.1, hr.2.1, ls_ok hr.2.2⟩
  sp := by
    have hs := h.2.2.2.1
    exact ⟨ls_ok hs.1, ls_ok hs.2.1, ls_ok hs.2.2.1, ls_ok hs.2.2.2.1, ls_ok hs.2.2.2.2.1, ls_ok hs.2.2.2.2.2.2.2.2.1⟩
  fi := h.2.2.2.2
theorem deep_loop (m : F.Make) (x : ByteArray) (o : List ByteArray) (hf : makeFits m) (ha : AskOk m [x]) (ho : OrdOk m x o) :
    ∀ j : Nat, j ≤ (ND m x).length → ∀ a : Nat, a ≤ 100001 → smithylaw10_GraphDeep.l0.v m x (ND m x) ((a : Int), (j : Int)) = some (.ok ((mx a (((ND m x).drop j).map fun y => DD (ND m) o.length y + 1) : Nat) : Int)) := fun j hj =>
  up j hj (fun a h0 => by rw [smithylaw10_GraphDeep.l0.v_eq, lss_nat, List.drop_length, decide_eq_false (by simp)]; rfl) (fun j hj ih a h0 => by
    have hln := nd_len ha.g x
    have hy : (ND m x)[j] ∈ ND m x := List.getElem_mem hj
    have hg := ha.grf
    have hol : o.length ≤ 100000 := Nat.le_trans (nodup_sub ho.nd ho.un) hg.ul
    have hyn := nd_ok ha.g hy
    have hys : (ND m x)[j].size ≤ LIM := by have := nameOk_size hyn; simp only [LIM]; omega
    obtain ⟨r0, q1, q2, q3, q4⟩ := nd_mem hy
    have hay : AskOk m [(ND m x)[j]] := ⟨ha.b, ha.g, by simp, fun z hz => by rw [List.mem_singleton.1 hz]; exact hyn⟩
    have h1 : oneG m (ND m x)[j] = 0 := one_of hay (memB_iff.2 (List.mem_flatMap.2 ⟨r0, q1, List.mem_cons_of_mem _ q4⟩))
    obtain ⟨i, hi, ei⟩ := List.getElem_of_mem ho.mem
    have hyo : (ND m x)[j] ∈ o := List.mem_of_mem_take (ho.tp i hi _ (by rw [ei]; exact hy))
    obtain ⟨d, e1, e2⟩ := depth_v m (ND m x)[j] hf hys
    obtain ⟨k1, k2, o', ho', k3⟩ := e2.resolve_left (fun h => by
      obtain ⟨ring, hr⟩ := h.2.2 h1
      exact no_ring ho.tp hyo hr)
    have hdd : DD (ND m) o'.length (ND m x)[j] = DD (ND m) o.length (ND m x)[j] := by
      obtain ⟨p, hp, ep⟩ := List.getElem_of_mem hyo
      obtain ⟨p', hp', ep'⟩ := List.getElem_of_mem ho'.mem
      have a1 := dd_stable ho.tp (p + 1) p hp (by omega) o.length (o.length + o'.length) hp (by omega)
      have a2 := dd_stable ho'.tp (p' + 1) p' hp' (by omega) o'.length (o.length + o'.length) hp' (by omega)
      rw [ep] at a1
      rw [ep'] at a2
      rw [a1, a2]
    have hmem : memB (usersL m.Rules (ND m x)[j]) x = true := memB_iff.2 (List.mem_map.2 ⟨r0, List.mem_filter.2 ⟨q1, memB_iff.2 q4⟩, q2⟩)
    have hul : (usersL m.Rules (ND m x)[j]).length ≤ LIM := by
      unfold usersL
      rw [List.length_map]
      have := List.length_filter_le (fun r : F.Rule => memB r.Needs (ND m x)[j]) m.Rules
      have := hf.rl
      omega
    have hle := dd_le (ND m) o.length (ND m x)[j]
    rw [smithylaw10_GraphDeep.l0.v_eq]
    simp only
    rw [lss_nat, decide_eq_true hj, cond_true, idx_nat hj, Option.bind_some, e1, Option.bind_some, Option.bind_some, users_v m _ hf hys h1, Option.bind_some, has_v _ _ hul, hmem, k1, k3, hdd, wrap_nat (by omega), wrap_nat (by omega), drop_cons hj, List.map_cons]
    rw [show icmp .neq (0 : Int) (0 : Int) = false from rfl]
    simp only [cond_false, Option.bind_some, Bool.not_true, gtr_nat]
    show _ = some (Except.ok ((mx (if DD (ND m) o.length (ND m x)[j] + 1 > a then DD (ND m) o.length (ND m x)[j] + 1 else a) _ : Nat) : Int))
    by_cases hgt : a < DD (ND m) o.length (ND m x)[j] + 1
    · rw [decide_eq_true hgt, if_pos hgt, cond_true, Option.bind_some]
      exact ih _ (by omega)
    · rw [decide_eq_false hgt, if_neg hgt, cond_false, Option.bind_some]
      exact ih _ (by omega))
theorem GraphDeep : smithylaw10_GraphDeep.Pure := by
  intro m x hm hx
  have hf := fits_ok hm
  refine (smithylaw10_GraphDeep.tends _ _).ex ?_
  obtain ⟨r, h1, h2⟩ := depth_v m x hf hx
  rw [smithylaw10_GraphDeep.v_eq, h1, Option.bind_some]
  obtain ⟨r1, r2⟩ := r
  simp only at h2 ⊢
  rcases h2 with ⟨h2, h3, _⟩ | ⟨h2, h3, o, ho, h4⟩
  · rw [neq_dec, decide_eq_false h2, h3, speaks10_v]; rfl
  · have ha := (one_ok h3).1
    obtain ⟨i, hi, ei⟩ := List.getElem_of_mem ho.mem
    have e1 : DD (ND m) o.length x = DD (ND m) (o.length + 1) x := by
      have := dd_stable ho.tp (i + 1) i hi (by omega) o.length (o.length + 1) hi (by omega)
      rwa [ei] at this
    rw [h2, show icmp .neq (0 : Int) (0 : Int) = false from rfl, cond_false, rneeds_v10 m x hf.rl, Option.bind_some, show smithylaw10_GraphDeep.l0.v m x (ND m x) ((0 : Int), (0 : Int)) = _ from deep_loop m x o hf ha ho 0 (Nat.zero_le _) 0 (Nat.zero_le _), Option.bind_some, List.drop_zero, h4, speaks10_v]
    simp only
    rw [eql_nat, decide_eq_true (show DD (ND m) o.length x = mx 0 ((ND m x).map fun y => DD (ND m) o.length y + 1) from e1)]
    rfl
end Go.Proofs.Ytlpmolohppoofaa.Pure
