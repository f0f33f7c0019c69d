/- Chapter 14: what is below a target. -/
import Derived.Test.YtedgkcdofiildaaPtexts14
import Derived.Test.YtedgkcdofiildaaPdelf14
set_option linter.unusedVariables false
set_option linter.unusedSimpArgs false
set_option linter.unnecessarySimpa false
set_option linter.deprecated false
namespace Go.Proofs.Ytedgkcdofiildaa.F
open Go Go.RowKit Go.Proofs.Ytedgkcdofiildaa.Sl
/-! ### what a right plan says of its nodes -/
theorem planGo_at : ∀ (ns : List Node) (a b : List ByteArray), planGo ns a = some b → ∀ i (h : i < ns.length), rightB (a ++ (ns.take i).map (·.Target)) ns[i] = true
  | n :: ns, a, b, hp, i, h => by
    unfold planGo at hp
    cases hr : rightB a n with
    | false => rw [hr] at hp; cases hp
    | true =>
      rw [hr] at hp
      cases i with
      | zero => simpa using hr
      | succ i =>
        have := planGo_at ns _ b hp i (by simpa using h)
        simpa using this
structure PlanAt (p : Plan) : Prop where
  len : p.Nodes.length ≤ 256
  at_ : ∀ i (h : i < p.Nodes.length), rightB ((p.Nodes.take i).map (·.Target)) p.Nodes[i] = true
theorem plan_at {p : Plan} (h : planOk p = true) : PlanAt p := by
  unfold planOk at h
  cases hg : planGo p.Nodes [] with
  | none => rw [hg] at h; simp at h
  | some b =>
    simp only [Bool.and_eq_true, decide_eq_true_eq] at h
    exact ⟨h.1.1.1, fun i hi => by simpa using planGo_at _ _ _ hg i hi⟩
theorem PlanAt.new {p : Plan} (h : PlanAt p) {i : Nat} (hi : i < p.Nodes.length) {k : Nat} (hk : k < i) : p.Nodes[k].Target ≠ p.Nodes[i].Target := fun e => by
  have h1 := rightB_new (h.at_ i hi)
  have : memB ((p.Nodes.take i).map (·.Target)) p.Nodes[i].Target = true := memB_iff.2 (List.mem_map.2 ⟨p.Nodes[k], by rw [List.mem_take_iff_getElem]; exact ⟨k, by omega, rfl⟩, e⟩)
  rw [h1] at this; cases this
theorem PlanAt.inj {p : Plan} (h : PlanAt p) {i k : Nat} (hi : i < p.Nodes.length) (hk : k < p.Nodes.length) (e : p.Nodes[k].Target = p.Nodes[i].Target) : k = i := by
  rcases Nat.lt_trichotomy k i with hl | hl | hl
  · exact absurd e (h.new hi hl)
  · exact hl
  · exact absurd e.symm (h.new hk hl)
theorem PlanAt.needs {p : Plan} (h : PlanAt p) {i : Nat} (hi : i < p.Nodes.length) {x : ByteArray} (hx : x ∈ p.Nodes[i].Needs) : ∃ k, ∃ hk : k < i, p.Nodes[k].Target = x := by
  have h1 := h.at_ i hi
  unfold rightB at h1
  simp only [Bool.and_eq_true] at h1
  have h2 := memB_iff.1 (List.all_eq_true.1 h1.2 x hx)
  obtain ⟨n, hn, e⟩ := List.mem_map.1 h2
  obtain ⟨k, hk, e2⟩ := List.mem_take_iff_getElem.1 hn
  exact ⟨k, by omega, by rw [e2]; exact e⟩
theorem PlanAt.nlen {p : Plan} (h : PlanAt p) {i : Nat} (hi : i < p.Nodes.length) : p.Nodes[i].Needs.length ≤ 65 := by
  have h1 := h.at_ i hi
  unfold rightB nodeB at h1
  simp only [Bool.and_eq_true, decide_eq_true_eq] at h1
  exact h1.1.1.1.1.1.1.1.2
/-! ### below, the program's way -/
def bstep (t : ByteArray) (a : List ByteArray) (n : Node) : List ByteArray := bif decide (n.Target = t) || memB a n.Target then a ++ n.Needs else a
def belowL (p : Plan) (t : ByteArray) : List ByteArray := p.Nodes.reverse.foldl (bstep t) []
def backL (c : List Node) : Nat → List (Int × Node)
  | 0 => []
  | j + 1 => match c[j]? with | some x => ((j : Int), x) :: backL c j | none => backL c j
theorem backL_map (c : List Node) : ∀ j, j ≤ c.length → (backL c j).map (·.2) = (c.take j).reverse
  | 0, _ => rfl
  | j + 1, h => by
    have hj : j < c.length := h
    rw [backL, List.getElem?_eq_getElem hj, List.take_add_one, List.getElem?_eq_getElem hj, List.reverse_append]
    simp only [List.map_cons, backL_map c j (by omega), Option.toList, List.reverse_singleton, List.singleton_append]
theorem backL_len (c : List Node) : ∀ j, j ≤ c.length → (backL c j).length = j
  | 0, _ => rfl
  | j + 1, h => by
    have hj : j < c.length := h
    rw [backL, List.getElem?_eq_getElem hj, List.length_cons, backL_len c j (by omega)]
theorem wrap_pred (j : Nat) (h : j ≤ LIM) : IntKind.i64.wrap ((j : Int) - 1) = (j : Int) - 1 := by
  simp [IntKind.wrap, IntKind.signed, IntKind.bits, LIM] at *
  split <;> omega
theorem back_loop (c : List Node) (hl : c.length ≤ LIM) : ∀ j : Nat, j ≤ c.length → slices_Backward_api_Node_api_Node_1.l0.v c ((j : Int) - 1) = some (backL c j)
  | 0, _ => by
    rw [slices_Backward_api_Node_api_Node_1.l0.v_eq, show icmp .geq (((0 : Nat) : Int) - 1) 0 = false by decide]; rfl
  | j + 1, h => by
    have hj : j < c.length := h
    have e : ((j + 1 : Nat) : Int) - 1 = (j : Int) := by omega
    rw [slices_Backward_api_Node_api_Node_1.l0.v_eq, e, show icmp .geq (j : Int) 0 = true by simp [icmp], cond_true, idx_nat hj, Option.bind_some, wrap_pred j (by omega), back_loop c hl j (by omega), Option.bind_some, backL, List.getElem?_eq_getElem hj]
theorem back_v (c : List Node) (hl : c.length ≤ LIM) : slices_Backward_api_Node_api_Node.v c = some (backL c c.length) := by
  rw [slices_Backward_api_Node_api_Node.v_eq, slices_Backward_api_Node_api_Node_1.v_eq, wrap_pred _ hl, back_loop c hl _ (Nat.le_refl _)]; rfl
theorem put_set {m : GM Int} {a : List ByteArray} (hm : Marks m a) (hn : m.n < 9223372036854775807) {x : ByteArray} (hx : x.size ≤ LIM) : ∃ m', walk_set_string_put.f m x = some m' ∧ Marks m' (a ++ [x]) ∧ m'.n = m.n + 1 :=
  ⟨_, by unfold walk_set_string_put.f; rw [gput_some hn hx]; rfl, marks_put hm x, rfl⟩
theorem bneeds_loop (x : Int × Node) (hf : nodeFits x.2) : ∀ j : Nat, j ≤ x.2.Needs.length → ∀ m a, Marks m a → m.n + (x.2.Needs.length - j) < 9223372036854775807 → ∃ m', walk_below.l1.v x (m, (j : Int)) = some m' ∧ Marks m' (a ++ x.2.Needs.drop j) ∧ m'.n = m.n + (x.2.Needs.length - j) := fun j hj =>
  up j hj (fun m a hm hn => ⟨m, by rw [walk_below.l1.v_eq, lss_nat, decide_eq_false (by simp)]; rfl, by rw [List.drop_length, List.append_nil]; exact hm, by omega⟩) (fun j hj ih m a hm hn => by
    have hl := hf.nl
    obtain ⟨m1, e1, e2, e3⟩ := put_set hm (by omega) (hf.ns _ (List.getElem_mem hj))
    obtain ⟨m', f1, f2, f3⟩ := ih m1 (a ++ [x.2.Needs[j]]) e2 (by omega)
    refine ⟨m', ?_, ?_, by omega⟩
    · rw [walk_below.l1.v_eq, lss_nat, decide_eq_true hj, cond_true, idx_nat hj, Option.bind_some, e1, Option.bind_some, wrap_nat (by simp [LIM] at hl; omega), f1]
    · rw [drop_cons hj]; simpa using f2)
theorem below_loop (t : ByteArray) : ∀ r : List (Int × Node), (∀ x, x ∈ r → nodeFits x.2 ∧ x.2.Needs.length ≤ 65) → ∀ m a, Marks m a → m.n + r.length * 65 < 9223372036854775807 → ∃ m', walk_below.l0.v t r m = some (.ok m') ∧ Marks m' ((r.map (·.2)).foldl (bstep t) a)
  | [], _, m, a, hm, _ => ⟨m, walk_below.l0.v_nil t m, hm⟩
  | x :: r, hr, m, a, hm, hn => by
    have hx := hr x (by simp)
    simp only [List.length_cons] at hn
    rw [walk_below.l0.v_cons, has_set hm hx.1.t]
    simp only [List.map_cons, List.foldl_cons, Option.bind_some]
    have hb : (bif scmp .neq x.2.Target t then some (!memB a x.2.Target) else some false) = some (!(decide (x.2.Target = t) || memB a x.2.Target)) := by
      rw [scmp_neq]
      cases decide (x.2.Target = t) <;> rfl
    rw [hb, Option.bind_some]
    unfold bstep
    cases hc : (decide (x.2.Target = t) || memB a x.2.Target) with
    | false =>
      rw [Bool.not_false, cond_true, cond_false, Option.bind_some]
      exact below_loop t r (fun y hy => hr y (by simp [hy])) m a hm (by omega)
    | true =>
      obtain ⟨m1, e1, e2, e3⟩ := bneeds_loop x hx.1 0 (Nat.zero_le _) m a hm (by omega)
      rw [Bool.not_true, cond_false, cond_true, show walk_below.l1.v x (m, (0 : Int)) = some m1 from e1, Option.bind_some, Option.bind_some]
      exact below_loop t r (fun y hy => hr y (by simp [hy])) m1 _ (by simpa using e2) (by omega)
theorem below_v (p : Plan) (hf : planFits p) (hp : PlanAt p) (t : ByteArray) : ∃ m, walk_below.v p t = some m ∧ Marks m (belowL p t) := by
  obtain ⟨m0, e1, e2, e3⟩ := setof_v [] (by simp) (fun x h => by cases h)
  have hmem : ∀ x, x ∈ backL p.Nodes p.Nodes.length → x.2 ∈ p.Nodes := fun x hx => by
    have h1 := backL_map p.Nodes p.Nodes.length (Nat.le_refl _)
    have h2 : x.2 ∈ (backL p.Nodes p.Nodes.length).map (·.2) := List.mem_map.2 ⟨x, hx, rfl⟩
    rw [h1, List.take_length] at h2
    exact List.mem_reverse.1 h2
  have hlen := hp.len
  obtain ⟨m, f1, f2⟩ := below_loop t (backL p.Nodes p.Nodes.length) (fun x hx => ⟨hf.n _ (hmem x hx), by
    obtain ⟨i, hi, e⟩ := List.getElem_of_mem (hmem x hx)
    rw [← e]; exact hp.nlen hi⟩) m0 [] e2 (by rw [backL_len _ _ (Nat.le_refl _)]; simp at e3; omega)
  refine ⟨m, ?_, ?_⟩
  · rw [walk_below.v_eq, e1, Option.bind_some, back_v _ (by have := hf.nl; simp [LIM] at *; omega), Option.bind_some, f1, Option.bind_some]
  · rw [backL_map _ _ (Nat.le_refl _), List.take_length] at f2; exact f2
/-! ### the reference's way -/
def mset (ns : List Node) (a : List ByteArray) : List Bool := ns.map fun n => memB a n.Target
theorem set_mid {α : Type} (A B : List α) (x v : α) : (A ++ x :: B).set A.length v = A ++ v :: B := by simp
theorem inner_loop (p : Plan) (hf : planFits p) (a : List ByteArray) (o : List Bool) (i : Nat) (hi : i < p.Nodes.length) (hii : p.Nodes[i].Needs.length ≤ LIM) : ∀ j : Nat, j ≤ i → smithyref14_set.l1.v p (o, (i : Int)) ((p.Nodes.take j).map (fun n => memB (a ++ p.Nodes[i].Needs) n.Target) ++ (p.Nodes.drop j).map (fun n => memB a n.Target), (j : Int)) =
    some ((p.Nodes.take i).map (fun n => memB (a ++ p.Nodes[i].Needs) n.Target) ++ (p.Nodes.drop i).map (fun n => memB a n.Target)) := fun j hj =>
  up j hj (by rw [smithyref14_set.l1.v_eq]; simp only []; rw [lss_nat, decide_eq_false (by omega)]; rfl) (fun j hj ih => by
    have hl := hf.nl
    have hjn : j < p.Nodes.length := by omega
    have hA : ((p.Nodes.take j).map (fun n => memB (a ++ p.Nodes[i].Needs) n.Target)).length = j := by simp; omega
    have hlt : j < ((p.Nodes.take j).map (fun n => memB (a ++ p.Nodes[i].Needs) n.Target) ++ (p.Nodes.drop j).map (fun n => memB a n.Target)).length := by simp; omega
    have hx : ((p.Nodes.take j).map (fun n => memB (a ++ p.Nodes[i].Needs) n.Target) ++ (p.Nodes.drop j).map (fun n => memB a n.Target))[j] = memB a p.Nodes[j].Target := by
      rw [List.getElem_append_right (by omega)]
      have hmin : min j p.Nodes.length = j := by omega
      simp [hmin]
    have hset : ∀ v, ((p.Nodes.take j).map (fun n => memB (a ++ p.Nodes[i].Needs) n.Target) ++ (p.Nodes.drop j).map (fun n => memB a n.Target)).set j v = (p.Nodes.take j).map (fun n => memB (a ++ p.Nodes[i].Needs) n.Target) ++ v :: (p.Nodes.drop (j + 1)).map (fun n => memB a n.Target) := fun v => by
      rw [drop_cons hjn, List.map_cons]
      have := set_mid ((p.Nodes.take j).map (fun n => memB (a ++ p.Nodes[i].Needs) n.Target)) ((p.Nodes.drop (j + 1)).map (fun n => memB a n.Target)) (memB a p.Nodes[j].Target) v
      rw [hA] at this; exact this
    have hnew : (p.Nodes.take j).map (fun n => memB (a ++ p.Nodes[i].Needs) n.Target) ++ (memB a p.Nodes[j].Target || memB p.Nodes[i].Needs p.Nodes[j].Target) :: (p.Nodes.drop (j + 1)).map (fun n => memB a n.Target) = (p.Nodes.take (j + 1)).map (fun n => memB (a ++ p.Nodes[i].Needs) n.Target) ++ (p.Nodes.drop (j + 1)).map (fun n => memB a n.Target) := by
      rw [List.take_add_one, List.getElem?_eq_getElem hjn, List.map_append, List.append_assoc]
      simp [memB_app]
    rw [smithyref14_set.l1.v_eq]
    simp only []
    rw [lss_nat, decide_eq_true hj, cond_true, idx_nat hlt, Option.bind_some, Option.bind_some, hx, idx_nat hi, idx_nat hjn, Int.toNat_natCast, hset, wrap_nat (by simp [LIM] at hl; omega)]
    simp only [Option.bind_some]
    rw [has_v _ _ hii]
    simp only [Option.bind_some, hset]
    rw [← hnew] at ih
    cases hm : memB a p.Nodes[j].Target with
    | true => rw [hm] at ih; simp only [cond_true, Option.bind_some]; exact ih
    | false => rw [hm, Bool.false_or] at ih; simp only [cond_false, Option.bind_some]; exact ih)
theorem mset_app (p : Plan) (hp : PlanAt p) (a : List ByteArray) (i : Nat) (hi : i < p.Nodes.length) : (p.Nodes.take i).map (fun n => memB (a ++ p.Nodes[i].Needs) n.Target) ++ (p.Nodes.drop i).map (fun n => memB a n.Target) = mset p.Nodes (a ++ p.Nodes[i].Needs) := by
  have h2 : (p.Nodes.drop i).map (fun n => memB a n.Target) = (p.Nodes.drop i).map (fun n => memB (a ++ p.Nodes[i].Needs) n.Target) := by
    refine List.map_congr_left (fun n hn => ?_)
    rw [memB_app]
    cases hm : memB p.Nodes[i].Needs n.Target with
    | false => simp
    | true =>
      obtain ⟨k, hk, e⟩ := hp.needs hi (memB_iff.1 hm)
      obtain ⟨q, hq, e2⟩ := List.mem_iff_getElem.1 hn
      rw [List.getElem_drop] at e2
      have hq' : i + q < p.Nodes.length := by simp at hq; omega
      have := hp.inj hq' (show k < p.Nodes.length by omega) (by rw [e, ← e2])
      omega
  rw [h2, ← List.map_append, List.take_append_drop]; rfl
theorem set_loop (p : Plan) (hf : planFits p) (hp : PlanAt p) (at_ : Nat) (hat : at_ < p.Nodes.length) : ∀ i : Nat, i ≤ at_ + 1 → ∀ a, smithyref14_set.l0.v p (at_ : Int) (mset p.Nodes a, (i : Int) - 1) = some (mset p.Nodes ((p.Nodes.take i).reverse.foldl (bstep p.Nodes[at_].Target) a))
  | 0, _, a => by
    rw [smithyref14_set.l0.v_eq, show icmp .geq (((0 : Nat) : Int) - 1) 0 = false by decide]; rfl
  | i + 1, h, a => by
    have hl := hf.nl
    have hi : i < p.Nodes.length := by omega
    have e : ((i + 1 : Nat) : Int) - 1 = (i : Int) := by omega
    have hms : i < (mset p.Nodes a).length := by simp [mset]; omega
    have hmx : (mset p.Nodes a)[i] = memB a p.Nodes[i].Target := by simp [mset]
    rw [smithyref14_set.l0.v_eq, e]
    simp only []
    rw [show icmp .geq (i : Int) 0 = true by simp [icmp], cond_true, neq_nat, idx_nat hms, Option.bind_some, hmx, wrap_pred i (by omega), List.take_add_one, List.getElem?_eq_getElem hi, List.reverse_append]
    simp only [Option.toList, List.reverse_singleton, List.singleton_append, List.foldl_cons]
    have hd : decide (i = at_) = decide (p.Nodes[i].Target = p.Nodes[at_].Target) := by
      rw [Bool.eq_iff_iff]
      simp only [decide_eq_true_eq]
      exact ⟨fun e => by subst e; rfl, fun e => hp.inj hat hi e⟩
    rw [hd]
    have hb : (bif !decide (p.Nodes[i].Target = p.Nodes[at_].Target) then some (!memB a p.Nodes[i].Target) else some false) = some (!(decide (p.Nodes[i].Target = p.Nodes[at_].Target) || memB a p.Nodes[i].Target)) := by
      cases decide (p.Nodes[i].Target = p.Nodes[at_].Target) <;> rfl
    rw [hb, Option.bind_some]
    have hin := inner_loop p hf a (mset p.Nodes a) i hi (hf.n _ (List.getElem_mem hi)).nl 0 (Nat.zero_le _)
    rw [mset_app p hp a i hi] at hin
    simp only [List.take_zero, List.map_nil, List.nil_append, List.drop_zero] at hin
    rw [show smithyref14_set.l1.v p (mset p.Nodes a, (i : Int)) (mset p.Nodes a, (0 : Int)) = _ from hin]
    unfold bstep
    cases hc : (decide (p.Nodes[i].Target = p.Nodes[at_].Target) || memB a p.Nodes[i].Target) with
    | false =>
      rw [Bool.not_false, cond_true, cond_false, Option.bind_some]
      exact set_loop p hf hp at_ hat i (by omega) a
    | true =>
      rw [Bool.not_true, cond_false, cond_true, Option.bind_some, Option.bind_some]
      exact set_loop p hf hp at_ hat i (by omega) _
theorem skip_all (t : ByteArray) : ∀ l : List Node, (∀ n, n ∈ l → n.Target ≠ t) → l.foldl (bstep t) [] = []
  | [], _ => rfl
  | n :: l, h => by
    rw [List.foldl_cons]
    have : bstep t [] n = [] := by unfold bstep; rw [decide_eq_false (h n (by simp))]; rfl
    rw [this]
    exact skip_all t l (fun x hx => h x (by simp [hx]))
theorem belowL_at (p : Plan) (hp : PlanAt p) (i : Nat) (hi : i < p.Nodes.length) : belowL p p.Nodes[i].Target = (p.Nodes.take (i + 1)).reverse.foldl (bstep p.Nodes[i].Target) [] := by
  unfold belowL
  have e : p.Nodes.reverse = (p.Nodes.drop (i + 1)).reverse ++ (p.Nodes.take (i + 1)).reverse := by rw [← List.reverse_append, List.take_append_drop]
  rw [e, List.foldl_append, skip_all]
  intro n hn
  obtain ⟨q, hq, e2⟩ := List.mem_iff_getElem.1 (List.mem_reverse.1 hn)
  rw [List.getElem_drop] at e2
  have hq' : i + 1 + q < p.Nodes.length := by simp at hq; omega
  rw [← e2]
  exact fun h => by have := hp.inj hi hq' h; omega
theorem set_v (p : Plan) (hf : planFits p) (hp : PlanAt p) (i : Nat) (hi : i < p.Nodes.length) : smithyref14_set.v p (i : Int) = some (mset p.Nodes (belowL p p.Nodes[i].Target)) := by
  have hl := hf.nl
  have hmk : mkrow 1 false (p.Nodes.length : Int) = some (mset p.Nodes []) := by
    unfold mkrow
    rw [if_pos ⟨by omega, by simp [LIM] at hl; omega⟩, Int.toNat_natCast]
    congr 1
    unfold mset
    exact (List.eq_replicate_iff.2 ⟨by simp, fun b hb => by obtain ⟨n, _, e⟩ := List.mem_map.1 hb; rw [← e]; rfl⟩).symm
  have hs := set_loop p hf hp i hi (i + 1) (Nat.le_refl _) []
  rw [show ((i + 1 : Nat) : Int) - 1 = (i : Int) by omega] at hs
  rw [smithyref14_set.v_eq, hmk, Option.bind_some, hs, Option.bind_some, belowL_at p hp i hi]
/-! ### nothing is below itself -/
theorem below_lt (p : Plan) (hp : PlanAt p) (i : Nat) (hi : i < p.Nodes.length) : ∀ l : List Node, (∀ n, n ∈ l → ∃ k, ∃ hk : k ≤ i, p.Nodes[k]'(by omega) = n) → ∀ a : List ByteArray, (∀ x, x ∈ a → ∃ k, ∃ hk : k < i, (p.Nodes[k]'(by omega)).Target = x) → ∀ x, x ∈ l.foldl (bstep p.Nodes[i].Target) a → ∃ k, ∃ hk : k < i, (p.Nodes[k]'(by omega)).Target = x
  | [], _, a, ha, x, hx => ha x hx
  | n :: l, hl, a, ha, x, hx => by
    rw [List.foldl_cons] at hx
    refine below_lt p hp i hi l (fun y hy => hl y (by simp [hy])) _ (fun z hz => ?_) x hx
    unfold bstep at hz
    cases hc : (decide (n.Target = p.Nodes[i].Target) || memB a n.Target) with
    | false => rw [hc] at hz; exact ha z hz
    | true =>
      rw [hc, cond_true] at hz
      rcases List.mem_append.1 hz with hz | hz
      · exact ha z hz
      · obtain ⟨k, hk, e⟩ := hl n (by simp)
        subst e
        obtain ⟨q, hq, e⟩ := hp.needs (show k < p.Nodes.length by omega) hz
        exact ⟨q, by omega, e⟩
theorem belowL_lt (p : Plan) (hp : PlanAt p) (i : Nat) (hi : i < p.Nodes.length) (x : ByteArray) (hx : x ∈ belowL p p.Nodes[i].Target) : ∃ k, ∃ hk : k < i, (p.Nodes[k]'(by omega)).Target = x := by
  rw [belowL_at p hp i hi] at hx
  refine below_lt p hp i hi _ (fun n hn => ?_) [] (fun y hy => by cases hy) x hx
  obtain ⟨k, hk, e⟩ := List.mem_take_iff_getElem.1 (List.mem_reverse.1 hn)
  exact ⟨k, by omega, e⟩
/-! ### the exported functions -/
theorem tgts_fits (p : Plan) (hf : planFits p) : (tgts p).length ≤ LIM ∧ ∀ x, x ∈ tgts p → x.size ≤ LIM :=
  ⟨by have := hf.nl; simp [tgts, LIM] at *; omega, fun x hx => by obtain ⟨n, hn, rfl⟩ := List.mem_map.1 hx; exact (hf.n n hn).t⟩
theorem some_v (p : Plan) (hf : planFits p) (w : ByteArray → Option Bool) (q : ByteArray → Bool) (hw : ∀ z, z ∈ tgts p → w z = some (q z)) : walk_some.v p w = some ((tgts p).filter q) := by
  rw [walk_some.v_eq, targets_v p hf, Option.bind_some, delf_v (tgts p) _ (fun z => !q z) (fun z hz => by unfold walk_some_1.f; rw [hw z hz]; rfl) (tgts_fits p hf).1, Option.bind_some]
  simp
theorem wBelow_v (p : Plan) (hf : planFits p) (t : ByteArray) (ht : t.size ≤ LIM) : walk_Below.v p t = some (if askR p [t] = 0 then ((tgts p).filter (memB (belowL p t)), 0) else ([], askR p [t])) := by
  rw [walk_Below.v_eq, asked_v p hf [t] (by simp [LIM]) (fun x hx => by rw [List.mem_singleton.1 hx]; exact ht), Option.bind_some]
  by_cases h : askR p [t] = 0
  · obtain ⟨m, e1, e2⟩ := below_v p hf (plan_at (ask_zero h).1) t
    rw [if_pos h, h, e1, Option.bind_some, some_v p hf _ (memB (belowL p t)) (fun z hz => has_set e2 ((tgts_fits p hf).2 z hz))]; rfl
  · rw [if_neg h, show icmp .neq (askR p [t]) 0 = true by simp [icmp, h]]; rfl
theorem wAbove_v (p : Plan) (hf : planFits p) (t : ByteArray) (ht : t.size ≤ LIM) : walk_Above.v p t = some (if askR p [t] = 0 then ((tgts p).filter (fun s => memB (belowL p s) t), 0) else ([], askR p [t])) := by
  rw [walk_Above.v_eq, asked_v p hf [t] (by simp [LIM]) (fun x hx => by rw [List.mem_singleton.1 hx]; exact ht), Option.bind_some]
  by_cases h : askR p [t] = 0
  · rw [if_pos h, h, some_v p hf _ (fun s => memB (belowL p s) t) (fun z hz => by
      obtain ⟨m, e1, e2⟩ := below_v p hf (plan_at (ask_zero h).1) z
      rw [walk_Above_1.v_eq, e1, Option.bind_some, has_set e2 ht]; rfl)]; rfl
  · rw [if_neg h, show icmp .neq (askR p [t]) 0 = true by simp [icmp, h]]; rfl
def apartB (p : Plan) (a b : ByteArray) : Bool := !decide (a = b) && !memB (belowL p a) b && !memB (belowL p b) a
theorem wApart_v (p : Plan) (hf : planFits p) (a b : ByteArray) (ha : a.size ≤ LIM) (hb : b.size ≤ LIM) : walk_Apart.v p a b = some (if askR p [a, b] = 0 then (apartB p a b, 0) else (false, askR p [a, b])) := by
  rw [walk_Apart.v_eq, asked_v p hf [a, b] (by simp [LIM]) (fun x hx => by
    rcases List.mem_cons.1 hx with rfl | hx
    · exact ha
    · rw [List.mem_singleton.1 hx]; exact hb), Option.bind_some]
  by_cases h : askR p [a, b] = 0
  · obtain ⟨m, e1, e2⟩ := below_v p hf (plan_at (ask_zero h).1) a
    obtain ⟨m', f1, f2⟩ := below_v p hf (plan_at (ask_zero h).1) b
    rw [if_pos h, h, e1, f1, scmp_neq]
    simp only [Option.bind_some]
    rw [has_set e2 hb, has_set f2 ha]
    unfold apartB
    cases decide (a = b) <;> cases memB (belowL p a) b <;> cases memB (belowL p b) a <;> rfl
  · rw [if_neg h, show icmp .neq (askR p [a, b]) 0 = true by simp [icmp, h]]; rfl
theorem rbelow_loop (p : Plan) (hf : planFits p) (a : List ByteArray) : ∀ j : Nat, j ≤ p.Nodes.length → ∀ o : List ByteArray, o.length ≤ j → smithyref14_Below.l0.v p (mset p.Nodes a) (o, (j : Int)) = some (o ++ ((p.Nodes.drop j).map (·.Target)).filter (memB a)) := fun j hj =>
  up j hj (fun o ho => by rw [smithyref14_Below.l0.v_eq, show ((mset p.Nodes a).length : Int) = (p.Nodes.length : Int) by simp [mset], lss_nat, List.drop_length, decide_eq_false (by simp)]; simp) (fun j hj ih o ho => by
    have hl := hf.nl
    have hms : j < (mset p.Nodes a).length := by simp [mset]; omega
    have hmx : (mset p.Nodes a)[j] = memB a p.Nodes[j].Target := by simp [mset]
    rw [smithyref14_Below.l0.v_eq, show ((mset p.Nodes a).length : Int) = (p.Nodes.length : Int) by simp [mset], lss_nat, decide_eq_true hj, cond_true, idx_nat hms, Option.bind_some, hmx, idx_nat hj, Option.bind_some]
    dsimp only
    rw [app_one (by simp [LIM] at *; omega), wrap_nat (by simp [LIM] at hl; omega), drop_cons hj, List.map_cons, List.filter_cons]
    cases hm : memB a p.Nodes[j].Target with
    | true =>
      simp only [cond_true, Option.bind_some, if_true]
      rw [ih _ (by simp; omega)]; simp
    | false =>
      simp only [cond_false, Option.bind_some, Bool.false_eq_true, if_false]
      exact ih o (by omega))
theorem rBelow_v (p : Plan) (hf : planFits p) (hp : PlanAt p) (t : ByteArray) (ht : memB (tgts p) t = true) : smithyref14_Below.v p t = some ((tgts p).filter (memB (belowL p t))) := by
  rcases place_v p hf t with ⟨_, i, hi, e, et⟩ | ⟨h, _⟩
  · subst et
    rw [smithyref14_Below.v_eq, e, Option.bind_some, set_v p hf hp i hi, Option.bind_some, show smithyref14_Below.l0.v p (mset p.Nodes (belowL p p.Nodes[i].Target)) (([] : List ByteArray), (0 : Int)) = _ from rbelow_loop p hf _ 0 (Nat.zero_le _) [] (Nat.le_refl _)]; rfl
  · rw [h] at ht; cases ht
theorem rabove_loop (p : Plan) (hf : planFits p) (hp : PlanAt p) (i : Nat) (hi : i < p.Nodes.length) (e : smithyref12_Place.v p p.Nodes[i].Target = some (i : Int)) : ∀ j : Nat, j ≤ p.Nodes.length → ∀ o : List ByteArray, o.length ≤ j → smithyref14_Above.l0.v p p.Nodes[i].Target (o, (j : Int)) = some (o ++ ((p.Nodes.drop j).map (·.Target)).filter (fun s => memB (belowL p s) p.Nodes[i].Target)) := fun j hj =>
  up j hj (fun o ho => by rw [smithyref14_Above.l0.v_eq, lss_nat, List.drop_length, decide_eq_false (by simp)]; simp) (fun j hj ih o ho => by
    have hl := hf.nl
    have hms : i < (mset p.Nodes (belowL p p.Nodes[j].Target)).length := by simp [mset]; omega
    have hmx : (mset p.Nodes (belowL p p.Nodes[j].Target))[i] = memB (belowL p p.Nodes[j].Target) p.Nodes[i].Target := by simp [mset]
    rw [smithyref14_Above.l0.v_eq, lss_nat, decide_eq_true hj, cond_true, set_v p hf hp j hj, Option.bind_some, e, Option.bind_some, idx_nat hms, Option.bind_some, hmx, idx_nat hj, Option.bind_some]
    dsimp only
    rw [app_one (by simp [LIM] at *; omega), wrap_nat (by simp [LIM] at hl; omega), drop_cons hj, List.map_cons, List.filter_cons]
    cases hm : memB (belowL p p.Nodes[j].Target) p.Nodes[i].Target with
    | true =>
      simp only [cond_true, Option.bind_some, if_true]
      rw [ih _ (by simp; omega)]; simp
    | false =>
      simp only [cond_false, Option.bind_some, Bool.false_eq_true, if_false]
      exact ih o (by omega))
theorem rAbove_v (p : Plan) (hf : planFits p) (hp : PlanAt p) (t : ByteArray) (ht : memB (tgts p) t = true) : smithyref14_Above.v p t = some ((tgts p).filter (fun s => memB (belowL p s) t)) := by
  rcases place_v p hf t with ⟨_, i, hi, e, et⟩ | ⟨h, _⟩
  · subst et
    rw [smithyref14_Above.v_eq, show smithyref14_Above.l0.v p p.Nodes[i].Target (([] : List ByteArray), (0 : Int)) = _ from rabove_loop p hf hp i hi e 0 (Nat.zero_le _) [] (Nat.le_refl _)]; rfl
  · rw [h] at ht; cases ht
theorem rApart_v (p : Plan) (hf : planFits p) (hp : PlanAt p) (a b : ByteArray) (ha : memB (tgts p) a = true) (hb : memB (tgts p) b = true) : smithyref14_Apart.v p a b = some (apartB p a b) := by
  rcases place_v p hf a with ⟨_, i, hi, e, et⟩ | ⟨h, _⟩
  · rcases place_v p hf b with ⟨_, j, hj, e', et'⟩ | ⟨h, _⟩
    · subst et
      subst et'
      have h1 : j < (mset p.Nodes (belowL p p.Nodes[i].Target)).length := by simp [mset]; omega
      have h1x : (mset p.Nodes (belowL p p.Nodes[i].Target))[j] = memB (belowL p p.Nodes[i].Target) p.Nodes[j].Target := by simp [mset]
      have h2 : i < (mset p.Nodes (belowL p p.Nodes[j].Target)).length := by simp [mset]; omega
      have h2x : (mset p.Nodes (belowL p p.Nodes[j].Target))[i] = memB (belowL p p.Nodes[j].Target) p.Nodes[i].Target := by simp [mset]
      rw [smithyref14_Apart.v_eq, e, e', Option.bind_some, Option.bind_some, set_v p hf hp i hi, set_v p hf hp j hj, Option.bind_some, Option.bind_some, idx_nat h1, idx_nat h2, Option.bind_some, Option.bind_some, h1x, h2x, scmp_neq]
      unfold apartB
      cases decide (p.Nodes[i].Target = p.Nodes[j].Target) <;> cases memB (belowL p p.Nodes[i].Target) p.Nodes[j].Target <;> cases memB (belowL p p.Nodes[j].Target) p.Nodes[i].Target <;> rfl
    · rw [h] at hb; cases hb
  · rw [h] at ha; cases ha
end Go.Proofs.Ytedgkcdofiildaa.F
