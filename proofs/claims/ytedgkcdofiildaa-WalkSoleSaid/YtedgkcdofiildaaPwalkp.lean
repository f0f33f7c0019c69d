/- Chapter 14: what is asked; what is next. -/
import Derived.Test.YtedgkcdofiildaaPcheck
set_option linter.unusedVariables false
set_option linter.unusedSimpArgs false
set_option linter.unnecessarySimpa false
set_option linter.deprecated false
namespace Go.Proofs.Ytedgkcdofiildaa.F
open Go Go.RowKit Go.Proofs.Ytedgkcdofiildaa.Sl
def tgts (p : Plan) : List ByteArray := p.Nodes.map (·.Target)
theorem targets_loop (p : Plan) (hf : planFits p) : ∀ j : Nat, j ≤ p.Nodes.length → ∀ a : List ByteArray, a.length ≤ j → walk_targets.l0.v p (a, (j : Int)) = some (a ++ (p.Nodes.drop j).map (·.Target)) := fun j hj =>
  up j hj (fun a ha => by rw [walk_targets.l0.v_eq, lss_nat, List.drop_length, decide_eq_false (by simp)]; simp) (fun j hj ih a ha => by
    have hl := hf.nl
    rw [walk_targets.l0.v_eq, lss_nat, decide_eq_true hj, cond_true, idx_nat hj, Option.bind_some]
    dsimp only
    rw [app_one (by simp [LIM] at *; omega), Option.bind_some, wrap_nat (by simp [LIM] at hl; omega), ih _ (by simp; omega), drop_cons hj]
    simp only [List.map_cons, List.append_assoc, List.singleton_append])
theorem targets_v (p : Plan) (hf : planFits p) : walk_targets.v p = some (tgts p) := by
  rw [walk_targets.v_eq, show walk_targets.l0.v p (([] : List ByteArray), (0 : Int)) = _ from targets_loop p hf 0 (Nat.zero_le _) [] (Nat.le_refl _)]; rfl
theorem setof_loop (l : List ByteArray) (hl : l.length ≤ LIM) (hs : ∀ x, x ∈ l → x.size ≤ LIM) : ∀ j : Nat, j ≤ l.length → ∀ m a, Marks m a → m.n ≤ j → ∃ m', walk_setOf_string.l0.v l (m, (j : Int)) = some m' ∧ Marks m' (a ++ l.drop j) ∧ m'.n ≤ l.length := fun j hj =>
  up j hj (fun m a hm hn => ⟨m, by rw [walk_setOf_string.l0.v_eq, lss_nat, decide_eq_false (by simp)]; rfl, by rw [List.drop_length, List.append_nil]; exact hm, hn⟩) (fun j hj ih m a hm hn => by
    have hl2 : j < 9223372036854775807 := by simp [LIM] at hl; omega
    obtain ⟨m', e1, e2, e3⟩ := ih ⟨m.n + 1, fun t => if t = l[j] then some 1 else m.g t⟩ (a ++ [l[j]]) (marks_put hm _) (by show m.n + 1 ≤ j + 1; omega)
    refine ⟨m', ?_, ?_, e3⟩
    · rw [walk_setOf_string.l0.v_eq, lss_nat, decide_eq_true hj, cond_true, idx_nat hj, Option.bind_some, gput_some (by show m.n < _; omega) (hs _ (List.getElem_mem hj)), Option.bind_some, wrap_nat hl2, e1]
    · rw [drop_cons hj]; simpa using e2)
theorem setof_v (l : List ByteArray) (hl : l.length ≤ LIM) (hs : ∀ x, x ∈ l → x.size ≤ LIM) : ∃ m, walk_setOf_string.v l = some m ∧ Marks m l ∧ m.n ≤ l.length := by
  obtain ⟨m, e1, e2, e3⟩ := setof_loop l hl hs 0 (Nat.zero_le _) gempty [] marks_empty (Nat.le_refl _)
  exact ⟨m, by rw [walk_setOf_string.v_eq, show walk_setOf_string.l0.v l ((gempty : GM Int), (0 : Int)) = _ from e1]; rfl, by simpa using e2, e3⟩
theorem has_set {m : GM Int} {a : List ByteArray} (hm : Marks m a) {x : ByteArray} (hx : x.size ≤ LIM) : walk_set_string_has.f ⟨m⟩ x = some (memB a x) := by
  unfold walk_set_string_has.f
  rw [gget_some hx, Option.bind_some, marks_eql hm]
def askR (p : Plan) (l : List ByteArray) : Int := bif planOk p then (bif decide (l.length ≤ 512) then (bif l.all nameOk then (bif l.all (memB (tgts p)) then 0 else 9) else 3) else 2) else 7
theorem asked_loop (l : List ByteArray) (hl : l.length ≤ LIM) (hs : ∀ x, x ∈ l → x.size ≤ LIM) : ∀ j : Nat, j ≤ l.length → walk_asked.l0.v l j = some (bif (l.drop j).all nameOk then .ok () else .error 3) := fun j hj =>
  up j hj (by rw [walk_asked.l0.v_eq, lss_nat, List.drop_length, decide_eq_false (by simp)]; rfl) (fun j hj ih => by
    rw [walk_asked.l0.v_eq, lss_nat, decide_eq_true hj, cond_true, idx_nat hj, Option.bind_some, chk_v _ (hs _ (List.getElem_mem hj)), Option.bind_some, wrap_nat (by simp [LIM] at hl; omega), ih, drop_cons hj, List.all_cons]
    cases nameOk l[j] <;> rfl)
theorem len512 (l : List ByteArray) : icmp .gtr (l.length : Int) (512 : Int) = !decide (l.length ≤ 512) := by
  rw [show icmp .gtr (l.length : Int) 512 = _ from gtr_nat _ 512, Bool.eq_iff_iff]; simp
theorem asked_v (p : Plan) (hf : planFits p) (l : List ByteArray) (hl : l.length ≤ LIM) (hs : ∀ x, x ∈ l → x.size ≤ LIM) : walk_asked.v p l = some (askR p l) := by
  have htl : (tgts p).length ≤ LIM := by have := hf.nl; simp [tgts, LIM] at *; omega
  have hts : ∀ x, x ∈ tgts p → x.size ≤ LIM := fun x hx => by
    obtain ⟨n, hn, rfl⟩ := List.mem_map.1 hx
    exact (hf.n n hn).t
  obtain ⟨m, e1, e2, _⟩ := setof_v (tgts p) htl hts
  rw [walk_asked.v_eq, rcheck_v p hf, Option.bind_some, len512, show walk_asked.l0.v l 0 = _ from asked_loop l hl hs 0 (Nat.zero_le _), List.drop_zero, targets_v p hf]
  simp only [Option.bind_some, e1]
  rw [any_v l _ (fun s => !memB (tgts p) s) (fun z hz => by unfold walk_asked_1.f; rw [has_set e2 (hs z hz)]; rfl) hl]
  have g : l.any (fun s => !memB (tgts p) s) = !l.all (memB (tgts p)) := by rw [List.not_all_eq_any_not]
  rw [g]
  unfold askR
  cases planOk p
  · rfl
  cases decide (l.length ≤ 512)
  · rfl
  cases l.all nameOk
  · rfl
  cases l.all (memB (tgts p)) <;> rfl
/-! ### next -/
def nxB (done : List ByteArray) (n : Node) : Bool := !memB done n.Target && n.Needs.all (memB done)
def nxR (p : Plan) (done : List ByteArray) : List ByteArray := (p.Nodes.filter (nxB done)).map (·.Target)
theorem next_loop (p : Plan) (hf : planFits p) (m : GM Int) (done : List ByteArray) (hm : Marks m done) : ∀ j : Nat, j ≤ p.Nodes.length → ∀ a : List ByteArray, a.length ≤ j → walk_next.l0.v p ⟨m⟩ (a, (j : Int)) = some (a ++ ((p.Nodes.drop j).filter (nxB done)).map (·.Target)) := fun j hj =>
  up j hj (fun a ha => by rw [walk_next.l0.v_eq, lss_nat, List.drop_length, decide_eq_false (by simp)]; simp) (fun j hj ih a ha => by
    have hl := hf.nl
    have hx := hf.n _ (List.getElem_mem hj)
    rw [walk_next.l0.v_eq, lss_nat, decide_eq_true hj, cond_true, idx_nat hj, Option.bind_some, has_set hm hx.t, Option.bind_some, any_v _ _ (fun s => !memB done s) (fun z hz => by unfold walk_next_1.f; rw [has_set hm (hx.ns z hz)]; rfl) hx.nl]
    dsimp only
    rw [app_one (by simp [LIM] at *; omega), wrap_nat (by simp [LIM] at hl; omega), drop_cons hj, show p.Nodes[j].Needs.any (fun s => !memB done s) = !p.Nodes[j].Needs.all (memB done) from by rw [List.not_all_eq_any_not], List.filter_cons]
    have k : nxB done p.Nodes[j] = (!memB done p.Nodes[j].Target && p.Nodes[j].Needs.all (memB done)) := rfl
    have ih1 := ih a (by omega)
    have ih2 := ih (a ++ [p.Nodes[j].Target]) (by simp; omega)
    rw [List.append_assoc] at ih2
    cases h1 : memB done p.Nodes[j].Target <;> cases h2 : p.Nodes[j].Needs.all (memB done) <;> rw [h1, h2] at k <;> rw [k]
    · exact ih1
    · exact ih2
    · exact ih1
    · exact ih1)
theorem next_v (p : Plan) (hf : planFits p) (m : GM Int) (done : List ByteArray) (hm : Marks m done) : walk_next.v p ⟨m⟩ = some (nxR p done) := by
  rw [walk_next.v_eq, show walk_next.l0.v p ⟨m⟩ (([] : List ByteArray), (0 : Int)) = _ from next_loop p hf m done hm 0 (Nat.zero_le _) [] (Nat.le_refl _)]; rfl
end Go.Proofs.Ytedgkcdofiildaa.F
