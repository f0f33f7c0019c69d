/- A plan is right: the reference's way and the program's. -/
import Derived.Test.YtedgkcdofiildaaPnames
set_option linter.unusedVariables false
set_option linter.unusedSimpArgs false
set_option linter.unnecessarySimpa false
set_option linter.deprecated false
namespace Go.Proofs.Ytedgkcdofiildaa.F
open Go Go.RowKit Go.Proofs.Ytedgkcdofiildaa.Sl
structure nodeFits (n : Node) : Prop where
  t : n.Target.size ≤ LIM
  nl : n.Needs.length ≤ LIM
  ns : ∀ x, x ∈ n.Needs → x.size ≤ LIM
  rl : n.Recipe.length ≤ LIM
def needsB (t : ByteArray) : List ByteArray → List ByteArray → Bool
  | _, [] => true
  | pre, x :: xs => nameOk x && !decide (x = t) && !memB pre x && needsB t (pre ++ [x]) xs
def srcB (n : Node) : Bool := bif decide (n.Source = (⟨#[]⟩ : ByteArray)) then decide (n.Stem = (⟨#[]⟩ : ByteArray)) else (match n.Needs with | [] => false | x :: _ => decide (x = n.Source)) && decide (n.Stem.size ≤ 64)
def nodeB (n : Node) : Bool := nameOk n.Target && decide (n.Needs.length ≤ 65) && decide (n.Recipe.length ≤ 64) && (n.Has || decide (n.Recipe.length = 0)) && needsB n.Target [] n.Needs && n.Recipe.all (fun s => decide (s.size ≤ 65536)) && srcB n
theorem take_succ' {l : List ByteArray} {j : Nat} (h : j < l.length) : l.take (j + 1) = l.take j ++ [l[j]] := by rw [List.take_add_one, List.getElem?_eq_getElem h]; rfl
theorem nneeds_loop (n : Node) (hf : nodeFits n) : ∀ j : Nat, j ≤ n.Needs.length → smithyref12_Node.l0.v n j = some (bif needsB n.Target (n.Needs.take j) (n.Needs.drop j) then .ok () else .error 7) := fun j hj =>
  up j hj (by rw [smithyref12_Node.l0.v_eq, lss_nat, List.drop_length, decide_eq_false (by simp)]; rfl) (fun j hj ih => by
    have hl := hf.nl
    rw [smithyref12_Node.l0.v_eq, lss_nat, decide_eq_true hj, cond_true, idx_nat hj, Option.bind_some, name_v _ (hf.ns _ (List.getElem_mem hj)), Option.bind_some, Option.bind_some, sub_nat (by omega), Option.bind_some, Option.bind_some, has_v _ _ (by simp; omega), scmp_eql, wrap_nat (by simp [LIM] at hl; omega), ih, drop_cons hj, take_succ' hj]
    simp only [needsB]
    cases nameOk n.Needs[j] <;> cases decide (n.Needs[j] = n.Target) <;> cases memB (n.Needs.take j) n.Needs[j] <;> simp)
theorem nrec_loop (n : Node) (hf : nodeFits n) : ∀ j : Nat, j ≤ n.Recipe.length → smithyref12_Node.l1.v n j = some (bif (n.Recipe.drop j).all (fun s => decide (s.size ≤ 65536)) then .ok () else .error 7) := fun j hj =>
  up j hj (by rw [smithyref12_Node.l1.v_eq, lss_nat, List.drop_length, decide_eq_false (by simp)]; rfl) (fun j hj ih => by
    have hl := hf.rl
    rw [smithyref12_Node.l1.v_eq, lss_nat, decide_eq_true hj, cond_true, idx_nat hj, Option.bind_some, show icmp .gtr ((n.Recipe[j]).size : Int) 65536 = _ from gtr_nat _ 65536, wrap_nat (by simp [LIM] at hl; omega), ih, drop_cons hj, List.all_cons]
    have g : decide (65536 < (n.Recipe[j]).size) = !decide ((n.Recipe[j]).size ≤ 65536) := by rw [Bool.eq_iff_iff]; simp
    rw [g]
    cases decide ((n.Recipe[j]).size ≤ 65536) <;> rfl)
theorem node_v (n : Node) (hf : nodeFits n) : smithyref12_Node.v n = some (bif nodeB n then 0 else 7) := by
  rw [smithyref12_Node.v_eq, name_v _ hf.t, show smithyref12_Node.l0.v n 0 = _ from nneeds_loop n hf 0 (Nat.zero_le _), show smithyref12_Node.l1.v n 0 = _ from nrec_loop n hf 0 (Nat.zero_le _)]
  rw [show icmp .gtr (n.Needs.length : Int) 65 = _ from gtr_nat _ 65, show icmp .gtr (n.Recipe.length : Int) 64 = _ from gtr_nat _ 64, show icmp .gtr (n.Recipe.length : Int) 0 = _ from gtr_nat _ 0, show icmp .eql (n.Needs.length : Int) 0 = _ from eql_nat _ 0, show icmp .gtr (n.Stem.size : Int) 64 = _ from gtr_nat _ 64]
  simp only [List.take_zero, List.drop_zero, scmp_eql, scmp_neq]
  unfold nodeB srcB
  have g1 : decide (65 < n.Needs.length) = !decide (n.Needs.length ≤ 65) := by rw [Bool.eq_iff_iff]; simp
  have g2 : decide (64 < n.Recipe.length) = !decide (n.Recipe.length ≤ 64) := by rw [Bool.eq_iff_iff]; simp
  have g3 : decide (0 < n.Recipe.length) = !decide (n.Recipe.length = 0) := by cases n.Recipe.length <;> simp
  have g4 : decide (64 < n.Stem.size) = !decide (n.Stem.size ≤ 64) := by rw [Bool.eq_iff_iff]; simp
  rw [g1, g2, g3, g4]
  have g5 : (decide (n.Needs.length = 0) = true ∧ n.Needs = []) ∨ (decide (n.Needs.length = 0) = false ∧ ∃ x xs, n.Needs = x :: xs ∧ idx n.Needs 0 = some x) := by
    cases n.Needs with
    | nil => exact .inl ⟨rfl, rfl⟩
    | cons x xs => exact .inr ⟨by simp, x, xs, rfl, rfl⟩
  cases nameOk n.Target
  · simp
  cases decide (n.Needs.length ≤ 65)
  · simp
  cases decide (n.Recipe.length ≤ 64)
  · simp
  generalize decide (n.Recipe.length = 0) = r0
  generalize n.Recipe.all (fun s => decide (s.size ≤ 65536)) = ra
  generalize needsB n.Target [] n.Needs = nb
  have hst64 : decide (n.Stem = (⟨#[]⟩ : ByteArray)) = true → decide (n.Stem.size ≤ 64) = true := fun h => by rw [of_decide_eq_true h]; rfl
  generalize decide (n.Stem.size ≤ 64) = s64 at *
  generalize decide (n.Source = (⟨#[]⟩ : ByteArray)) = so
  generalize decide (n.Stem = (⟨#[]⟩ : ByteArray)) = st at *
  generalize n.Has = hh
  rcases g5 with ⟨e1, e2⟩ | ⟨e1, x, xs, e2, e3⟩
  · rw [e1, e2]
    cases hh <;> cases r0 <;> cases nb <;> cases ra <;> cases so <;> cases st <;> cases s64 <;> first | rfl | (exact absurd (hst64 rfl) (by decide))
  · rw [e1, e3]
    simp only [e2, Option.bind_some]
    cases decide (x = n.Source) <;> cases hh <;> cases r0 <;> cases nb <;> cases ra <;> cases so <;> cases st <;> cases s64 <;> first | rfl | (exact absurd (hst64 rfl) (by decide))
def needsR (ahead : List ByteArray) : List ByteArray → List ByteArray → Bool
  | _, [] => true
  | pre, x :: xs => nameOk x && !memB pre x && memB ahead x && needsR ahead (pre ++ [x]) xs
/-- A map of marks that stands for a list. -/
def Marks (m : GM Int) (ahead : List ByteArray) : Prop := ∀ x, (m.g x).getD 0 = bif memB ahead x then 1 else 0
theorem marks_neq {m : GM Int} {ahead : List ByteArray} (h : Marks m ahead) (x : ByteArray) : icmp .neq ((m.g x).getD 0) 1 = !memB ahead x := by
  rw [h x]; cases memB ahead x <;> rfl
theorem marks_eql {m : GM Int} {ahead : List ByteArray} (h : Marks m ahead) (x : ByteArray) : icmp .eql ((m.g x).getD 0) 1 = memB ahead x := by
  rw [h x]; cases memB ahead x <;> rfl
theorem marks_empty : Marks gempty [] := fun x => rfl
theorem marks_put {m : GM Int} {ahead : List ByteArray} (h : Marks m ahead) (s : ByteArray) : Marks ⟨m.n + 1, fun t => if t = s then some 1 else m.g t⟩ (ahead ++ [s]) := fun x => by
  rw [memB_app]
  by_cases e : x = s
  · subst e; simp [memB]
  · simp only [if_neg e]
    rw [h x]
    simp [memB, show ¬ s = x from fun h => e h.symm]
theorem chk_v (s : ByteArray) (hs : s.size ≤ LIM) : names_Check.v s = some (bif nameOk s then 0 else 3) := by
  rw [check_v s hs]; cases nameOk s <;> rfl
theorem rneeds_loop (n : Node) (hf : nodeFits n) (m : GM Int) (ahead : List ByteArray) (hm : Marks m ahead) : ∀ j : Nat, j ≤ n.Needs.length → resolve_right.l0.v n m j = some (bif needsR ahead (n.Needs.take j) (n.Needs.drop j) then .ok () else .error false) := fun j hj =>
  up j hj (by rw [resolve_right.l0.v_eq, lss_nat, List.drop_length, decide_eq_false (by simp)]; rfl) (fun j hj ih => by
    have hl := hf.nl
    have hx := hf.ns _ (List.getElem_mem hj)
    rw [resolve_right.l0.v_eq, lss_nat, decide_eq_true hj, cond_true, idx_nat hj, Option.bind_some, chk_v _ hx, Option.bind_some, sub_nat (by omega), Option.bind_some, contains_v _ _ (by simp; omega), Option.bind_some, gget_some hx, Option.bind_some, marks_neq hm, wrap_nat (by simp [LIM] at hl; omega), ih, drop_cons hj, take_succ' hj]
    simp only [needsR]
    cases nameOk n.Needs[j] <;> cases memB (n.Needs.take j) n.Needs[j] <;> cases memB ahead n.Needs[j] <;> rfl)
theorem needsR_eq {ahead : List ByteArray} {t : ByteArray} (ht : memB ahead t = false) : ∀ l pre : List ByteArray, needsR ahead pre l = (needsB t pre l && l.all (memB ahead))
  | [], pre => rfl
  | x :: xs, pre => by
    simp only [needsR, needsB, List.all_cons, needsR_eq ht xs]
    by_cases e : x = t
    · subst e; rw [ht]; simp
    · rw [decide_eq_false e]
      cases nameOk x <;> cases memB pre x <;> cases memB ahead x <;> simp
def rightB (ahead : List ByteArray) (n : Node) : Bool := nodeB n && !memB ahead n.Target && n.Needs.all (memB ahead)
theorem right_v (n : Node) (hf : nodeFits n) (m : GM Int) (ahead : List ByteArray) (hm : Marks m ahead) : resolve_right.v n m = some (rightB ahead n) := by
  rw [resolve_right.v_eq, chk_v _ hf.t, show resolve_right.l0.v n m 0 = _ from rneeds_loop n hf m ahead hm 0 (Nat.zero_le _), gget_some hf.t, any_v _ _ (fun s => !decide (s.size ≤ 65536)) (fun z hz => by
    show some (icmp .gtr (z.size : Int) (65536 : Nat)) = _
    rw [gtr_nat]
    congr 1
    rw [Bool.eq_iff_iff]; simp) hf.rl]
  rw [show icmp .gtr (n.Needs.length : Int) 65 = _ from gtr_nat _ 65, show icmp .gtr (n.Recipe.length : Int) 64 = _ from gtr_nat _ 64, show icmp .gtr (n.Recipe.length : Int) 0 = _ from gtr_nat _ 0, show icmp .gtr (n.Needs.length : Int) 0 = _ from gtr_nat _ 0, show icmp .leq (n.Stem.size : Int) 64 = _ from leq_nat _ 64]
  simp only [List.take_zero, List.drop_zero, scmp_eql, scmp_neq, Option.bind_some, marks_eql hm]
  unfold rightB nodeB srcB
  cases ht : memB ahead n.Target with
  | true => cases nameOk n.Target <;> simp [icmp]
  | false =>
    rw [needsR_eq ht]
    have g1 : decide (65 < n.Needs.length) = !decide (n.Needs.length ≤ 65) := by rw [Bool.eq_iff_iff]; simp
    have g2 : decide (64 < n.Recipe.length) = !decide (n.Recipe.length ≤ 64) := by rw [Bool.eq_iff_iff]; simp
    have g3 : decide (0 < n.Recipe.length) = !decide (n.Recipe.length = 0) := by cases n.Recipe.length <;> simp
    have g6 : n.Recipe.any (fun s => !decide (s.size ≤ 65536)) = !n.Recipe.all (fun s => decide (s.size ≤ 65536)) := by rw [List.not_all_eq_any_not]
    rw [g1, g2, g3, g6]
    have g5 : (decide (0 < n.Needs.length) = false ∧ n.Needs = []) ∨ (decide (0 < n.Needs.length) = true ∧ ∃ x xs, n.Needs = x :: xs ∧ idx n.Needs 0 = some x) := by
      cases n.Needs with
      | nil => exact .inl ⟨rfl, rfl⟩
      | cons x xs => exact .inr ⟨by simp, x, xs, rfl, rfl⟩
    cases nameOk n.Target
    · rfl
    cases decide (n.Needs.length ≤ 65)
    · rfl
    cases decide (n.Recipe.length ≤ 64)
    · rfl
    generalize decide (n.Recipe.length = 0) = r0
    generalize n.Recipe.all (fun s => decide (s.size ≤ 65536)) = ra
    generalize needsB n.Target [] n.Needs = nb
    generalize n.Needs.all (memB ahead) = na
    generalize decide (n.Stem.size ≤ 64) = s64
    generalize decide (n.Source = (⟨#[]⟩ : ByteArray)) = so
    generalize decide (n.Stem = (⟨#[]⟩ : ByteArray)) = st
    generalize n.Has = hh
    rcases g5 with ⟨e1, e2⟩ | ⟨e1, x, xs, e2, e3⟩
    · rw [e1, e2]
      cases hh <;> cases r0 <;> cases nb <;> cases ra <;> cases na <;> cases so <;> cases st <;> cases s64 <;> rfl
    · rw [e1, e3]
      simp only [e2, Option.bind_some]
      cases decide (x = n.Source) <;> cases hh <;> cases r0 <;> cases nb <;> cases ra <;> cases na <;> cases so <;> cases st <;> cases s64 <;> rfl
end Go.Proofs.Ytedgkcdofiildaa.F
