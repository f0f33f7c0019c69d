/- A target by itself: modes.alone. -/
import Derived.Test.YtmmjbobicnmilaaPcheckr
import Derived.Test.YtmmjbobicnmilaaPord
set_option linter.unusedVariables false
set_option linter.unusedSimpArgs false
set_option linter.unnecessarySimpa false
set_option linter.deprecated false
namespace Go.Proofs.Ytmmjbobicnmilaa.F
open Go Go.RowKit Go.Proofs.Ytmmjbobicnmilaa.Sl
theorem app_all {α : Type} {b : Nat} {l k : List α} (h : (l.length + k.length) * b ≤ 140737488355328) : app b l k = some (l ++ k) := by
  unfold app room
  rw [if_pos (Nat.ble_eq_true_of_le h)]
def mkN (x : ByteArray) : Node := ⟨x, ([] : List ByteArray), ([] : List ByteArray), false, ByteArray.empty, ByteArray.empty, false, false, false, false⟩
def aloneP (n : Node) : Plan := ⟨n.Needs.map mkN ++ [n], [n.Target]⟩
theorem alone_loop (n : Node) (hn : n.Needs.length ≤ 1048577) : ∀ j : Nat, j ≤ n.Needs.length → ∀ out : List Node, out.length ≤ j → modes_alone.l0.v n (out, (j : Int)) = some (out ++ (n.Needs.drop j).map mkN) := fun j hj =>
  up j hj (fun out _ => by rw [modes_alone.l0.v_eq, lss_nat, List.drop_length, decide_eq_false (by simp)]; simp) (fun j hj ih out ho => by
    rw [modes_alone.l0.v_eq, lss_nat, decide_eq_true hj, cond_true, idx_nat hj, Option.bind_some, app_all (by simp; omega), Option.bind_some, wrap_nat (by omega), ih _ (by simp; omega), drop_cons hj, List.map_cons, List.append_assoc]; rfl)
theorem mkN_fits {x : ByteArray} (h : x.size ≤ LIM) : nodeFits (mkN x) := ⟨h, Nat.zero_le _, fun y hy => (by cases hy), Nat.zero_le _⟩
theorem aloneP_fits {n : Node} (hf : nodeFits n) (hn : n.Needs.length ≤ 1048577) : planFits (aloneP n) where
  nl := by simp [aloneP, LIM]; omega
  n := fun x hx => by
    simp only [aloneP, List.mem_append, List.mem_map, List.mem_singleton] at hx
    rcases hx with ⟨y, hy, rfl⟩ | rfl
    · exact mkN_fits (hf.ns y hy)
    · exact hf
  gl := by simp [aloneP, LIM]
  g := fun x hx => by simp only [aloneP, List.mem_singleton] at hx; rw [hx]; exact hf.t
theorem mkN_nodeB (x : ByteArray) : nodeB (mkN x) = nameOk x := by
  have h1 : srcB (mkN x) = true := by
    unfold srcB
    rw [decide_eq_true (show (mkN x).Source = (⟨#[]⟩ : ByteArray) from rfl), cond_true]
    exact decide_eq_true rfl
  unfold nodeB
  rw [h1]
  show (nameOk x && true && true && (false || true) && true && true && true) = nameOk x
  cases nameOk x <;> rfl
theorem planGo_app : ∀ (l k : List Node) (a : List ByteArray), planGo (l ++ k) a = (match planGo l a with | none => none | some b => planGo k b)
  | [], k, a => rfl
  | n :: l, k, a => by
    show (bif rightB a n then planGo (l ++ k) (a ++ [n.Target]) else none) = (match (bif rightB a n then planGo l (a ++ [n.Target]) else none) with | none => none | some b => planGo k b)
    cases rightB a n with
    | false => rfl
    | true => exact planGo_app l k _
theorem planGo_mk (t : ByteArray) : ∀ (l pre : List ByteArray), needsB t pre l = true → planGo (l.map mkN) pre = some (pre ++ l)
  | [], pre, _ => by simp [planGo]
  | x :: l, pre, h => by
    simp only [needsB, Bool.and_eq_true] at h
    obtain ⟨⟨⟨h1, h2⟩, h3⟩, h4⟩ := h
    have hr : rightB pre (mkN x) = true := by
      unfold rightB
      rw [mkN_nodeB, h1, show (mkN x).Target = x from rfl, h3]; rfl
    simp only [List.map_cons, planGo]
    rw [hr, cond_true, show (mkN x).Target = x from rfl, planGo_mk t l _ h4, List.append_assoc]; rfl
theorem needsB_no {t : ByteArray} : ∀ {l pre : List ByteArray}, needsB t pre l = true → memB l t = false
  | [], pre, _ => rfl
  | x :: l, pre, h => by
    simp only [needsB, Bool.and_eq_true, Bool.not_eq_true'] at h
    rw [memB_cons, h.1.1.2, needsB_no h.2]; rfl
theorem nodeB_alone {n : Node} (h : nodeB n = true) : planOk (aloneP n) = true := by
  have h0 := h
  unfold nodeB at h
  simp only [Bool.and_eq_true, decide_eq_true_eq] at h
  obtain ⟨⟨⟨⟨⟨⟨h1, h2⟩, h3⟩, h4⟩, h5⟩, h6⟩, h7⟩ := h
  have hall : n.Needs.all (memB n.Needs) = true := List.all_eq_true.2 fun x hx => memB_iff.2 hx
  have hgo : planGo (aloneP n).Nodes [] = some (n.Needs ++ [n.Target]) := by
    show planGo (n.Needs.map mkN ++ [n]) [] = _
    rw [planGo_app, planGo_mk n.Target _ _ h5, List.nil_append]
    show (bif rightB n.Needs n then some (n.Needs ++ [n.Target]) else none) = _
    unfold rightB
    rw [h0, needsB_no h5, hall]; rfl
  unfold planOk
  rw [hgo]
  have e1 : (aloneP n).Nodes.length ≤ 256 := by simp [aloneP]; omega
  have e2 : goalsB (n.Needs ++ [n.Target]) [] (aloneP n).Goals = true := by
    show (memB (n.Needs ++ [n.Target]) n.Target && !memB [] n.Target && true) = true
    rw [memB_app, memB_cons, decide_eq_true rfl]; simp [memB]
  rw [decide_eq_true e1]
  show (true && decide (1 ≤ (aloneP n).Goals.length) && decide ((aloneP n).Goals.length ≤ 512) && goalsB (n.Needs ++ [n.Target]) [] (aloneP n).Goals) = true
  rw [e2]; rfl
theorem alone_nodeB {n : Node} (h : planOk (aloneP n) = true) : nodeB n = true := by
  unfold planOk at h
  rw [show (aloneP n).Nodes = n.Needs.map mkN ++ [n] from rfl, planGo_app] at h
  cases h1 : planGo (n.Needs.map mkN) [] with
  | none => rw [h1] at h; simp at h
  | some b =>
    rw [h1] at h
    cases h2 : rightB b n with
    | false => simp [planGo, h2] at h
    | true =>
      unfold rightB at h2
      simp only [Bool.and_eq_true] at h2
      exact h2.1.1
theorem alone_eq (n : Node) : planOk (aloneP n) = nodeB n := by
  rw [Bool.eq_iff_iff]; exact ⟨alone_nodeB, nodeB_alone⟩
theorem alone_v (n : Node) (hf : nodeFits n) (hn : n.Needs.length ≤ 1048577) : modes_alone.v n = some (bif nodeB n then 0 else 7) := by
  rw [modes_alone.v_eq, show modes_alone.l0.v n (([] : List Node), (0 : Int)) = _ from alone_loop n hn 0 (Nat.zero_le _) [] (Nat.le_refl _), List.drop_zero, List.nil_append, Option.bind_some, app_all (by simp; omega), Option.bind_some, show (⟨n.Needs.map mkN ++ [n], [n.Target]⟩ : Plan) = aloneP n from rfl, rcheck_v _ (aloneP_fits hf hn), alone_eq]
  rfl
end Go.Proofs.Ytmmjbobicnmilaa.F
