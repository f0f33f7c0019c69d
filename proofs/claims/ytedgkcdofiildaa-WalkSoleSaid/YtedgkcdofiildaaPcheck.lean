/- Whether a plan is right. -/
import Derived.Test.YtedgkcdofiildaaPplan
set_option linter.unusedVariables false
set_option linter.unusedSimpArgs false
set_option linter.unnecessarySimpa false
set_option linter.deprecated false
namespace Go.Proofs.Ytedgkcdofiildaa.F
open Go Go.RowKit Go.Proofs.Ytedgkcdofiildaa.Sl
structure planFits (p : Plan) : Prop where
  nl : p.Nodes.length ≤ LIM / 100
  n : ∀ x, x ∈ p.Nodes → nodeFits x
  gl : p.Goals.length ≤ LIM
  g : ∀ x, x ∈ p.Goals → x.size ≤ LIM
def planGo : List Node → List ByteArray → Option (List ByteArray)
  | [], a => some a
  | n :: ns, a => bif rightB a n then planGo ns (a ++ [n.Target]) else none
def goalsB (ahead : List ByteArray) : List ByteArray → List ByteArray → Bool
  | _, [] => true
  | pre, x :: xs => memB ahead x && !memB pre x && goalsB ahead (pre ++ [x]) xs
def planOk (p : Plan) : Bool := decide (p.Nodes.length ≤ 256) && decide (1 ≤ p.Goals.length) && decide (p.Goals.length ≤ 512) && (match planGo p.Nodes [] with | none => false | some a => goalsB a [] p.Goals)
theorem planGo_len : ∀ (l : List Node) (a b : List ByteArray), planGo l a = some b → b = a ++ l.map (·.Target)
  | [], a, b, h => by cases h; simp
  | n :: ns, a, b, h => by
    unfold planGo at h
    cases hr : rightB a n with
    | false => rw [hr] at h; cases h
    | true =>
      rw [hr] at h
      rw [planGo_len ns _ b h]; simp
theorem rcheck_loop (p : Plan) (hf : planFits p) : ∀ j : Nat, j ≤ p.Nodes.length → ∀ m ahead, Marks m ahead → m.n ≤ j → ∃ m', resolve_Check.l0.v p (m, (j : Int)) = some (match planGo (p.Nodes.drop j) ahead with | none => .error 7 | some _ => .ok m') ∧ ∀ a, planGo (p.Nodes.drop j) ahead = some a → Marks m' a := fun j hj =>
  up j hj (fun m ahead hm hn => ⟨m, by rw [resolve_Check.l0.v_eq, lss_nat, List.drop_length, decide_eq_false (by simp)]; rfl, fun a h => by rw [List.drop_length] at h; cases h; exact hm⟩) (fun j hj ih m ahead hm hn => by
    have hl := hf.nl
    have hx := hf.n _ (List.getElem_mem hj)
    have hl2 : j < 9223372036854775807 := by simp [LIM] at hl; omega
    obtain ⟨m', e1, e2⟩ := ih ⟨m.n + 1, fun t => if t = p.Nodes[j].Target then some 1 else m.g t⟩ (ahead ++ [p.Nodes[j].Target]) (marks_put hm _) (by show m.n + 1 ≤ j + 1; omega)
    refine ⟨m', ?_, ?_⟩
    · rw [resolve_Check.l0.v_eq, lss_nat, decide_eq_true hj, cond_true, idx_nat hj, Option.bind_some, right_v _ hx m ahead hm, Option.bind_some, gput_some (by show m.n < _; omega) hx.t, Option.bind_some, wrap_nat hl2, e1, drop_cons hj]
      simp only [planGo]
      cases rightB ahead p.Nodes[j] <;> rfl
    · intro a ha
      rw [drop_cons hj] at ha
      simp only [planGo] at ha
      cases hr : rightB ahead p.Nodes[j] with
      | false => rw [hr] at ha; cases ha
      | true => rw [hr] at ha; exact e2 a ha)
theorem rgoals_loop (p : Plan) (hf : planFits p) (m : GM Int) (ahead : List ByteArray) (hm : Marks m ahead) : ∀ j : Nat, j ≤ p.Goals.length → resolve_Check.l1.v p m j = some (bif goalsB ahead (p.Goals.take j) (p.Goals.drop j) then .ok () else .error 7) := fun j hj =>
  up j hj (by rw [resolve_Check.l1.v_eq, lss_nat, List.drop_length, decide_eq_false (by simp)]; rfl) (fun j hj ih => by
    have hl := hf.gl
    have hx := hf.g _ (List.getElem_mem hj)
    rw [resolve_Check.l1.v_eq, lss_nat, decide_eq_true hj, cond_true, idx_nat hj, Option.bind_some, gget_some hx, Option.bind_some, marks_neq hm, sub_nat (by omega), Option.bind_some, contains_v _ _ (by simp; omega), Option.bind_some, wrap_nat (by simp [LIM] at hl; omega), ih, drop_cons hj, take_succ' hj]
    simp only [goalsB]
    cases memB (p.Goals.take j) p.Goals[j] <;> cases memB ahead p.Goals[j] <;> rfl)
theorem bounds (p : Plan) : (bif icmp .gtr (p.Nodes.length : Int) (256 : Int) then some true else bif icmp .lss (p.Goals.length : Int) (1 : Int) then some true else some (icmp .gtr (p.Goals.length : Int) (512 : Int))) = some (!(decide (p.Nodes.length ≤ 256) && decide (1 ≤ p.Goals.length) && decide (p.Goals.length ≤ 512))) := by
  rw [show icmp .gtr (p.Nodes.length : Int) 256 = _ from gtr_nat _ 256, show icmp .lss (p.Goals.length : Int) 1 = _ from lss_nat _ 1, show icmp .gtr (p.Goals.length : Int) 512 = _ from gtr_nat _ 512]
  have g1 : decide (256 < p.Nodes.length) = !decide (p.Nodes.length ≤ 256) := by rw [Bool.eq_iff_iff]; simp
  have g2 : decide (p.Goals.length < 1) = !decide (1 ≤ p.Goals.length) := by rw [Bool.eq_iff_iff]; simp only [decide_eq_true_eq, Bool.not_eq_true', decide_eq_false_iff_not]; omega
  have g3 : decide (512 < p.Goals.length) = !decide (p.Goals.length ≤ 512) := by rw [Bool.eq_iff_iff]; simp
  rw [g1, g2, g3]
  cases decide (p.Nodes.length ≤ 256) <;> cases decide (1 ≤ p.Goals.length) <;> rfl
theorem rcheck_v (p : Plan) (hf : planFits p) : resolve_Check.v p = some (bif planOk p then 0 else 7) := by
  rw [resolve_Check.v_eq, bounds, Option.bind_some]
  unfold planOk
  cases decide (p.Nodes.length ≤ 256) && decide (1 ≤ p.Goals.length) && decide (p.Goals.length ≤ 512) with
  | false => rfl
  | true =>
    obtain ⟨m', e1, e2⟩ := rcheck_loop p hf 0 (Nat.zero_le _) gempty [] marks_empty (Nat.le_refl _)
    rw [show resolve_Check.l0.v p ((gempty : GM Int), (0 : Int)) = _ from e1]
    rw [List.drop_zero] at e2 ⊢
    cases hp : planGo p.Nodes [] with
    | none => rfl
    | some a =>
      simp only [Option.bind_some, Bool.not_true, cond_false, Bool.true_and]
      rw [show resolve_Check.l1.v p m' 0 = _ from rgoals_loop p hf m' a (e2 a hp) 0 (Nat.zero_le _), List.take_zero, List.drop_zero]
      cases goalsB a [] p.Goals <;> rfl
theorem fneeds_loop (s6 : List ByteArray × Int) (n : Node) (hf : nodeFits n) (ha : s6.1.length ≤ LIM) : ∀ j : Nat, j ≤ n.Needs.length → smithyref12_Check.l1.v s6 n j = some (bif (n.Needs.drop j).all (memB s6.1) then .ok () else .error 7) := fun j hj =>
  up j hj (by rw [smithyref12_Check.l1.v_eq, lss_nat, List.drop_length, decide_eq_false (by simp)]; rfl) (fun j hj ih => by
    have hl := hf.nl
    rw [smithyref12_Check.l1.v_eq, lss_nat, decide_eq_true hj, cond_true, idx_nat hj, Option.bind_some, has_v _ _ ha, Option.bind_some, wrap_nat (by simp [LIM] at hl; omega), ih, drop_cons hj, List.all_cons]
    cases memB s6.1 n.Needs[j] <;> rfl)
theorem fcheck_loop (p : Plan) (hf : planFits p) : ∀ j : Nat, j ≤ p.Nodes.length → ∀ ahead, ahead.length ≤ j → smithyref12_Check.l0.v p (ahead, (j : Int)) = some (match planGo (p.Nodes.drop j) ahead with | none => .error 7 | some a => .ok a) := fun j hj =>
  up j hj (fun ahead hn => by rw [smithyref12_Check.l0.v_eq, lss_nat, List.drop_length, decide_eq_false (by simp)]; rfl) (fun j hj ih ahead hn => by
    have hl := hf.nl
    have hx := hf.n _ (List.getElem_mem hj)
    have hl2 : j < 9223372036854775807 := by simp [LIM] at hl; omega
    have ha : ahead.length ≤ LIM := by simp [LIM] at *; omega
    rw [smithyref12_Check.l0.v_eq, lss_nat, decide_eq_true hj, cond_true, idx_nat hj, Option.bind_some, node_v _ hx, Option.bind_some, has_v _ _ ha, Option.bind_some, show smithyref12_Check.l1.v (ahead, (j : Int)) p.Nodes[j] 0 = _ from fneeds_loop (ahead, (j : Int)) _ hx ha 0 (Nat.zero_le _), List.drop_zero]
    simp only [Option.bind_some]
    rw [app_one (by simp [LIM] at *; omega)]
    simp only [Option.bind_some]
    rw [wrap_nat hl2, ih (ahead ++ [p.Nodes[j].Target]) (by simp; omega), drop_cons hj]
    simp only [planGo, rightB]
    cases nodeB p.Nodes[j] <;> cases memB ahead p.Nodes[j].Target <;> cases p.Nodes[j].Needs.all (memB ahead) <;> rfl)
theorem fgoals_loop (p : Plan) (hf : planFits p) (ahead : List ByteArray) (ha : ahead.length ≤ LIM) : ∀ j : Nat, j ≤ p.Goals.length → smithyref12_Check.l2.v p ahead j = some (bif goalsB ahead (p.Goals.take j) (p.Goals.drop j) then .ok () else .error 7) := fun j hj =>
  up j hj (by rw [smithyref12_Check.l2.v_eq, lss_nat, List.drop_length, decide_eq_false (by simp)]; rfl) (fun j hj ih => by
    have hl := hf.gl
    rw [smithyref12_Check.l2.v_eq, lss_nat, decide_eq_true hj, cond_true, idx_nat hj, Option.bind_some, has_v _ _ ha, Option.bind_some, sub_nat (by omega), Option.bind_some, Option.bind_some, has_v _ _ (by simp; omega), wrap_nat (by simp [LIM] at hl; omega), ih, drop_cons hj, take_succ' hj]
    simp only [goalsB]
    cases memB (p.Goals.take j) p.Goals[j] <;> cases memB ahead p.Goals[j] <;> rfl)
theorem fcheck_v (p : Plan) (hf : planFits p) : smithyref12_Check.v p = some (bif planOk p then 0 else 7) := by
  rw [smithyref12_Check.v_eq, bounds, Option.bind_some]
  unfold planOk
  cases decide (p.Nodes.length ≤ 256) && decide (1 ≤ p.Goals.length) && decide (p.Goals.length ≤ 512) with
  | false => rfl
  | true =>
    rw [show smithyref12_Check.l0.v p (([] : List ByteArray), (0 : Int)) = _ from fcheck_loop p hf 0 (Nat.zero_le _) [] (Nat.le_refl _), List.drop_zero]
    cases hp : planGo p.Nodes [] with
    | none => rfl
    | some a =>
      have hal : a.length ≤ LIM := by rw [planGo_len _ _ _ hp]; have := hf.nl; simp [LIM] at *; omega
      simp only [Option.bind_some, Bool.not_true, cond_false, Bool.true_and]
      rw [show smithyref12_Check.l2.v p a 0 = _ from fgoals_loop p hf a hal 0 (Nat.zero_le _), List.take_zero, List.drop_zero]
      cases goalsB a [] p.Goals <;> rfl
end Go.Proofs.Ytedgkcdofiildaa.F
