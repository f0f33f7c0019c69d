/- A make as a graph. -/
import Derived.Test.YtlpmolohppoofaaPload
import Derived.Test.YtlpmolohppoofaaPdfs
import Derived.Test.YtlpmolohppoofaaPsorts
set_option linter.unusedVariables false
set_option linter.unusedSimpArgs false
set_option linter.unnecessarySimpa false
set_option linter.deprecated false
namespace Go.Proofs.Ytlpmolohppoofaa.F
open Go Go.RowKit Go.Proofs.Ytlpmolohppoofaa.Sl
/-- The needs of a name. -/
def ND (m : Make) (x : ByteArray) : List ByteArray := ((m.Rules.find? fun r => decide (r.Target = x)).map (·.Needs)).getD []
def UG (m : Make) (fr : List ByteArray) : List ByteArray := fr ++ m.Rules.flatMap fun r => r.Target :: r.Needs
theorem nameOk_size {s : ByteArray} (h : nameOk s = true) : s.size ≤ 64 := by
  unfold nameOk at h
  simp only [Bool.and_eq_true, decide_eq_true_eq] at h
  exact h.1.2
theorem rulesB_all : ∀ (l : List Rule) (pre : List ByteArray), rulesB pre l = true → (∀ r, r ∈ l → ruleB r = true ∧ ¬ r.Target ∈ pre) ∧ (l.map (·.Target)).Nodup
  | [], _, _ => ⟨(fun r hr => by cases hr), List.nodup_nil⟩
  | r :: rs, pre, h => by
    simp only [rulesB, Bool.and_eq_true, Bool.not_eq_true'] at h
    obtain ⟨h1, h2⟩ := rulesB_all rs (pre ++ [r.Target]) h.2
    refine ⟨fun x hx => ?_, List.nodup_cons.2 ⟨fun k => ?_, h2⟩⟩
    · rcases List.mem_cons.1 hx with rfl | hx
      · exact ⟨h.1.2, fun k => by rw [memB_iff.2 k] at h; cases h.1.1⟩
      · exact ⟨(h1 x hx).1, fun k => (h1 x hx).2 (List.mem_append_left _ k)⟩
    · obtain ⟨y, hy, e⟩ := List.mem_map.1 k
      exact (h1 y hy).2 (by rw [e]; simp)
structure MG (m : Make) : Prop where
  nd : (m.Rules.map (·.Target)).Nodup
  t : ∀ r, r ∈ m.Rules → nameOk r.Target = true
  n : ∀ r, r ∈ m.Rules → r.Needs.length ≤ 64
  s : ∀ r, r ∈ m.Rules → ∀ x, x ∈ r.Needs → nameOk x = true
  o : ∀ r, r ∈ m.Rules → r.Needs.Nodup
  l : m.Rules.length ≤ 512
theorem makeB_g {m : Make} (h : makeB m = true) : MG m := by
  unfold makeB at h
  simp only [Bool.and_eq_true, decide_eq_true_eq] at h
  obtain ⟨⟨⟨⟨_, h1, h2⟩, _⟩, _⟩, _⟩ := h
  obtain ⟨h3, h4⟩ := rulesB_all _ _ h1
  refine ⟨h4, fun r hr => ?_, fun r hr => ?_, fun r hr x hx => ?_, fun r hr => ?_, h2⟩ <;>
  · have h5 := (h3 r hr).1
    unfold ruleB at h5
    simp only [Bool.and_eq_true, decide_eq_true_eq, List.all_eq_true] at h5
    first
      | exact h5.1.1.1
      | exact h5.1.1.2.1
      | exact h5.1.1.2.2 x hx
      | exact (onceB_nodup _ _ h5.1.2).2
theorem nd_mem {m : Make} {x y : ByteArray} (h : y ∈ ND m x) : ∃ r, r ∈ m.Rules ∧ r.Target = x ∧ ND m x = r.Needs ∧ y ∈ r.Needs := by
  unfold ND at h ⊢
  cases hf : m.Rules.find? fun r => decide (r.Target = x) with
  | none => rw [hf] at h; cases h
  | some r =>
    rw [hf] at h
    have hp := List.find?_some hf
    exact ⟨r, List.mem_of_find?_eq_some hf, of_decide_eq_true hp, rfl, h⟩
theorem nd_len {m : Make} (hg : MG m) (x : ByteArray) : (ND m x).length ≤ 64 := by
  unfold ND
  cases hf : m.Rules.find? fun r => decide (r.Target = x) with
  | none => simp
  | some r => exact hg.n r (List.mem_of_find?_eq_some hf)
theorem flat_len {α β : Type} (l : List α) (f : α → List β) (n : Nat) (h : ∀ x, x ∈ l → (f x).length ≤ n) : (l.flatMap f).length ≤ l.length * n := by
  induction l with
  | nil => simp
  | cons x l ih =>
    have h1 := h x (by simp)
    have h2 := ih (fun y hy => h y (List.mem_cons_of_mem _ hy))
    rw [List.flatMap_cons, List.length_append, List.length_cons, Nat.succ_mul]
    omega
theorem ug_grf {m : Make} (hg : MG m) {fr : List ByteArray} (hl : fr.length ≤ 512) (hn : ∀ x, x ∈ fr → nameOk x = true) : Grf (ND m) (UG m fr) where
  sz := fun x hx => by
    rcases List.mem_append.1 hx with h | h
    · exact nameOk_size (hn x h)
    · obtain ⟨r, hr, h⟩ := List.mem_flatMap.1 h
      rcases List.mem_cons.1 h with rfl | h
      · exact nameOk_size (hg.t r hr)
      · exact nameOk_size (hg.s r hr x h)
  cl := fun x hx y hy => by
    obtain ⟨r, h1, _, _, h2⟩ := nd_mem hy
    exact List.mem_append_right _ (List.mem_flatMap.2 ⟨r, h1, List.mem_cons_of_mem _ h2⟩)
  ln := nd_len hg
  ul := by
    have h1 := flat_len m.Rules (fun r => r.Target :: r.Needs) 65 (fun r hr => by have := hg.n r hr; simp; omega)
    have h2 := hg.l
    unfold UG
    rw [List.length_append]
    omega
theorem fold_find (x : ByteArray) : ∀ (l : List Rule) (acc : Option (List ByteArray)), (l.map (·.Target)).Nodup → (l.foldl (fun acc r => bif decide (r.Target = x) then some r.Needs else acc) acc) = (match l.find? fun r => decide (r.Target = x) with | some r => some r.Needs | none => acc)
  | [], acc, _ => rfl
  | r :: rs, acc, h => by
    obtain ⟨h1, h2⟩ := List.nodup_cons.1 h
    rw [List.foldl_cons, fold_find x rs _ h2, List.find?_cons]
    by_cases e : r.Target = x
    · have : rs.find? (fun r => decide (r.Target = x)) = none := List.find?_eq_none.2 fun y hy k => h1 (List.mem_map.2 ⟨y, hy, (of_decide_eq_true k).trans e.symm⟩)
      rw [decide_eq_true e, this]; rfl
    · rw [decide_eq_false e]; rfl
theorem needs_loop (m : Make) (hl : m.Rules.length ≤ LIM) (hs : ∀ r, r ∈ m.Rules → r.Target.size ≤ LIM) : ∀ j : Nat, j ≤ m.Rules.length → ∀ g : GM (List ByteArray), g.n ≤ j →
    ∃ of, graph_needs.l0.v m (g, (j : Int)) = some of ∧ ∀ x, of.g x = (m.Rules.drop j).foldl (fun acc r => bif decide (r.Target = x) then some r.Needs else acc) (g.g x) := fun j hj =>
  up j hj (fun g hn => ⟨g, by rw [graph_needs.l0.v_eq, lss_nat, decide_eq_false (by simp)]; rfl, fun x => by rw [List.drop_length]; rfl⟩) (fun j hj ih g hn => by
    have hl' := hl
    simp only [LIM] at hl'
    rw [graph_needs.l0.v_eq]
    simp only
    rw [lss_nat, decide_eq_true hj, cond_true, idx_nat hj, Option.bind_some, gput_some (by omega) (hs _ (List.getElem_mem hj)), Option.bind_some, wrap_nat (by omega), drop_cons hj]
    obtain ⟨of, h1, h2⟩ := ih _ (show (⟨g.n + 1, fun t => if t = m.Rules[j].Target then some m.Rules[j].Needs else g.g t⟩ : GM (List ByteArray)).n ≤ j + 1 by simp; omega)
    refine ⟨of, h1, fun x => ?_⟩
    rw [h2 x, List.foldl_cons]
    congr 1
    by_cases e : x = m.Rules[j].Target
    · rw [decide_eq_true e.symm]; simp [e]
    · rw [decide_eq_false (fun k => e k.symm)]; simp [e])
theorem needs_v (m : Make) (hf : makeFits m) (hn : (m.Rules.map (·.Target)).Nodup) : ∃ of, graph_needs.v m = some of ∧ ndOf of = ND m := by
  obtain ⟨of, h1, h2⟩ := needs_loop m hf.rl (fun r hr => (hf.rs r hr).t) 0 (Nat.zero_le _) gempty (Nat.le_refl _)
  refine ⟨of, by rw [graph_needs.v_eq, show graph_needs.l0.v m ((gempty : GM (List ByteArray)), (0 : Int)) = _ from h1]; rfl, ?_⟩
  funext x
  unfold ndOf ND
  rw [h2 x, List.drop_zero, fold_find x _ _ hn]
  cases m.Rules.find? fun r => decide (r.Target = x) <;> rfl
theorem rneeds_loop10 (m : Make) (x : ByteArray) (hl : m.Rules.length ≤ LIM) : ∀ j : Nat, j ≤ m.Rules.length → smithyref10_Needs.l0.v m x (j : Int) = some (match (m.Rules.drop j).find? fun r => decide (r.Target = x) with | some r => .error r.Needs | none => .ok ()) := fun j hj =>
  up j hj (by rw [smithyref10_Needs.l0.v_eq, lss_nat, List.drop_length, decide_eq_false (by simp)]; rfl) (fun j hj ih => by
    have hl' := hl
    simp only [LIM] at hl'
    rw [smithyref10_Needs.l0.v_eq, lss_nat, decide_eq_true hj, cond_true, idx_nat hj, Option.bind_some, Option.bind_some, scmp_eql, wrap_nat (by omega), ih, drop_cons hj, List.find?_cons]
    cases decide (m.Rules[j].Target = x) <;> rfl)
theorem rneeds_v10 (m : Make) (x : ByteArray) (hl : m.Rules.length ≤ LIM) : smithyref10_Needs.v m x = some (ND m x) := by
  rw [smithyref10_Needs.v_eq, show smithyref10_Needs.l0.v m x (0 : Int) = _ from rneeds_loop10 m x hl 0 (Nat.zero_le _), List.drop_zero]
  unfold ND
  cases m.Rules.find? fun r => decide (r.Target = x) <;> rfl
/-! ### what is asked first -/
def askG (m : Make) (l : List ByteArray) : Int := bif !makeB m then 6 else bif decide (512 < l.length) then 2 else bif l.all nameOk then 0 else 3
theorem asked_loop (l : List ByteArray) (hl : lsFits l) : ∀ j : Nat, j ≤ l.length → graph_asked.l0.v l (j : Int) = some (bif (l.drop j).all nameOk then .ok () else .error 3) := fun j hj =>
  up j hj (by rw [graph_asked.l0.v_eq, lss_nat, List.drop_length, decide_eq_false (by simp)]; rfl) (fun j hj ih => by
    have hn := hl.n
    rw [graph_asked.l0.v_eq, lss_nat, decide_eq_true hj, cond_true, idx_nat hj, Option.bind_some, chkn_v _ (hl.s _ (List.getElem_mem hj)), Option.bind_some, wrap_nat (by omega), ih, drop_cons hj, List.all_cons]
    cases nameOk l[j] <;> rfl)
theorem asked_v (m : Make) (l : List ByteArray) (hm : makeFits m) (hl : lsFits l) : graph_asked.v m l = some (askG m l) := by
  rw [graph_asked.v_eq, load_v m hm, Option.bind_some, show graph_asked.l0.v l (0 : Int) = _ from asked_loop l hl 0 (Nat.zero_le _), List.drop_zero, show icmp .gtr (l.length : Int) (512 : Int) = _ from gtr_nat _ 512]
  unfold askG
  cases makeB m <;> cases decide (512 < l.length) <;> cases l.all nameOk <;> rfl
structure AskOk (m : Make) (l : List ByteArray) : Prop where
  b : makeB m = true
  g : MG m
  ll : l.length ≤ 512
  n : ∀ x, x ∈ l → nameOk x = true
theorem ask_ok {m : Make} {l : List ByteArray} (h : askG m l = 0) : AskOk m l := by
  unfold askG at h
  cases hm : makeB m with
  | false => rw [hm] at h; cases h
  | true =>
    by_cases h1 : 512 < l.length
    · rw [hm, decide_eq_true h1] at h; cases h
    · rw [hm, decide_eq_false h1] at h
      cases h2 : l.all nameOk with
      | false => rw [h2] at h; cases h
      | true => exact ⟨hm, makeB_g hm, by omega, List.all_eq_true.1 h2⟩
theorem ask_of {m : Make} {l : List ByteArray} (h : makeB m = true) (h1 : l.length ≤ 512) (h2 : ∀ x, x ∈ l → nameOk x = true) : askG m l = 0 := by
  unfold askG
  rw [h, decide_eq_false (by omega), List.all_eq_true.2 h2]; rfl
theorem AskOk.grf {m : Make} {l : List ByteArray} (h : AskOk m l) : Grf (ND m) (UG m l) := ug_grf h.g h.ll h.n
theorem walk_v10 (m : Make) (fr : List ByteArray) (hf : makeFits m) (h : AskOk m fr) : ∃ r, graph_walk.v m fr = some r ∧ WalkR (ND m) (UG m fr) fr r := by
  obtain ⟨of, h1, h2⟩ := needs_v m hf h.g.nd
  obtain ⟨r, h3, h4⟩ := walk_all of (UG m fr) fr (by rw [h2]; exact h.grf) (fun x hx => List.mem_append_left _ hx)
  refine ⟨r, by rw [graph_walk.v_eq, h1, Option.bind_some, h3], ?_⟩
  rw [h2] at h4
  exact h4
end Go.Proofs.Ytlpmolohppoofaa.F
