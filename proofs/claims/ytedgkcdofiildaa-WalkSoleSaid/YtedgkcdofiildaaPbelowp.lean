/- Chapter 14: what is below a target. -/
import Derived.Test.YtedgkcdofiildaaPtexts14p
import Derived.Test.YtedgkcdofiildaaPwalkp
set_option linter.unusedVariables false
set_option linter.unusedSimpArgs false
set_option linter.unnecessarySimpa false
set_option linter.deprecated false
namespace Go.Proofs.Ytedgkcdofiildaa.F
open Go Go.RowKit Go.Proofs.Ytedgkcdofiildaa.Sl
/-! ### what a right plan says of its nodes -/
theorem planGo_at : ∀ (ns : List Node) (a b : List ByteArray), planGo ns a = some b → ∀ i (h : i < ns.length), rightB (a ++ (ns.take i).map (·.Target)) ns[i] = true
  | n :: ns, a, b, hp, i, h => by
    unfold planGo at hp
    cases hr : rightB a n with
    | false => rw [hr] at hp; cases hp
    | true =>
      rw [hr] at hp
      cases i with
      | zero => simpa using hr
      | succ i =>
        have := planGo_at ns _ b hp i (by simpa using h)
        simpa using this
structure PlanAt (p : Plan) : Prop where
  len : p.Nodes.length ≤ 256
  at_ : ∀ i (h : i < p.Nodes.length), rightB ((p.Nodes.take i).map (·.Target)) p.Nodes[i] = true
theorem plan_at {p : Plan} (h : planOk p = true) : PlanAt p := by
  unfold planOk at h
  cases hg : planGo p.Nodes [] with
  | none => rw [hg] at h; simp at h
  | some b =>
    simp only [Bool.and_eq_true, decide_eq_true_eq] at h
    exact ⟨h.1.1.1, fun i hi => by simpa using planGo_at _ _ _ hg i hi⟩
theorem PlanAt.new {p : Plan} (h : PlanAt p) {i : Nat} (hi : i < p.Nodes.length) {k : Nat} (hk : k < i) : p.Nodes[k].Target ≠ p.Nodes[i].Target := fun e => by
  have h1 := rightB_new (h.at_ i hi)
  have : memB ((p.Nodes.take i).map (·.Target)) p.Nodes[i].Target = true := memB_iff.2 (List.mem_map.2 ⟨p.Nodes[k], by rw [List.mem_take_iff_getElem]; exact ⟨k, by omega, rfl⟩, e⟩)
  rw [h1] at this; cases this
theorem PlanAt.inj {p : Plan} (h : PlanAt p) {i k : Nat} (hi : i < p.Nodes.length) (hk : k < p.Nodes.length) (e : p.Nodes[k].Target = p.Nodes[i].Target) : k = i := by
  rcases Nat.lt_trichotomy k i with hl | hl | hl
  · exact absurd e (h.new hi hl)
  · exact hl
  · exact absurd e.symm (h.new hk hl)
theorem PlanAt.needs {p : Plan} (h : PlanAt p) {i : Nat} (hi : i < p.Nodes.length) {x : ByteArray} (hx : x ∈ p.Nodes[i].Needs) : ∃ k, ∃ hk : k < i, p.Nodes[k].Target = x := by
  have h1 := h.at_ i hi
  unfold rightB at h1
  simp only [Bool.and_eq_true] at h1
  have h2 := memB_iff.1 (List.all_eq_true.1 h1.2 x hx)
  obtain ⟨n, hn, e⟩ := List.mem_map.1 h2
  obtain ⟨k, hk, e2⟩ := List.mem_take_iff_getElem.1 hn
  exact ⟨k, by omega, by rw [e2]; exact e⟩
theorem PlanAt.nlen {p : Plan} (h : PlanAt p) {i : Nat} (hi : i < p.Nodes.length) : p.Nodes[i].Needs.length ≤ 65 := by
  have h1 := h.at_ i hi
  unfold rightB nodeB at h1
  simp only [Bool.and_eq_true, decide_eq_true_eq] at h1
  exact h1.1.1.1.1.1.1.1.2
/-! ### below, the program's way -/
def bstep (t : ByteArray) (a : List ByteArray) (n : Node) : List ByteArray := bif decide (n.Target = t) || memB a n.Target then a ++ n.Needs else a
def belowL (p : Plan) (t : ByteArray) : List ByteArray := p.Nodes.reverse.foldl (bstep t) []
def backL (c : List Node) : Nat → List (Int × Node)
  | 0 => []
  | j + 1 => match c[j]? with | some x => ((j : Int), x) :: backL c j | none => backL c j
theorem backL_map (c : List Node) : ∀ j, j ≤ c.length → (backL c j).map (·.2) = (c.take j).reverse
  | 0, _ => rfl
  | j + 1, h => by
    have hj : j < c.length := h
    rw [backL, List.getElem?_eq_getElem hj, List.take_add_one, List.getElem?_eq_getElem hj, List.reverse_append]
    simp only [List.map_cons, backL_map c j (by omega), Option.toList, List.reverse_singleton, List.singleton_append]
theorem backL_len (c : List Node) : ∀ j, j ≤ c.length → (backL c j).length = j
  | 0, _ => rfl
  | j + 1, h => by
    have hj : j < c.length := h
    rw [backL, List.getElem?_eq_getElem hj, List.length_cons, backL_len c j (by omega)]
theorem wrap_pred (j : Nat) (h : j ≤ LIM) : IntKind.i64.wrap ((j : Int) - 1) = (j : Int) - 1 := by
  simp [IntKind.wrap, IntKind.signed, IntKind.bits, LIM] at *
  split <;> omega
theorem back_loop (c : List Node) (hl : c.length ≤ LIM) : ∀ j : Nat, j ≤ c.length → slices_Backward_api_Node_api_Node_1.l0.v c ((j : Int) - 1) = some (backL c j)
  | 0, _ => by
    rw [slices_Backward_api_Node_api_Node_1.l0.v_eq, show icmp .geq (((0 : Nat) : Int) - 1) 0 = false by decide]; rfl
  | j + 1, h => by
    have hj : j < c.length := h
    have e : ((j + 1 : Nat) : Int) - 1 = (j : Int) := by omega
    rw [slices_Backward_api_Node_api_Node_1.l0.v_eq, e, show icmp .geq (j : Int) 0 = true by simp [icmp], cond_true, idx_nat hj, Option.bind_some, wrap_pred j (by omega), back_loop c hl j (by omega), Option.bind_some, backL, List.getElem?_eq_getElem hj]
theorem back_v (c : List Node) (hl : c.length ≤ LIM) : slices_Backward_api_Node_api_Node.v c = some (backL c c.length) := by
  rw [slices_Backward_api_Node_api_Node.v_eq, slices_Backward_api_Node_api_Node_1.v_eq, wrap_pred _ hl, back_loop c hl _ (Nat.le_refl _)]; rfl
theorem put_set {m : GM Int} {a : List ByteArray} (hm : Marks m a) (hn : m.n < 9223372036854775807) {x : ByteArray} (hx : x.size ≤ LIM) : ∃ m', walk_set_string_put.f m x = some m' ∧ Marks m' (a ++ [x]) ∧ m'.n = m.n + 1 :=
  ⟨_, by unfold walk_set_string_put.f; rw [gput_some hn hx]; rfl, marks_put hm x, rfl⟩
theorem bneeds_loop (x : Int × Node) (hf : nodeFits x.2) : ∀ j : Nat, j ≤ x.2.Needs.length → ∀ m a, Marks m a → m.n + (x.2.Needs.length - j) < 9223372036854775807 → ∃ m', walk_below.l1.v x (m, (j : Int)) = some m' ∧ Marks m' (a ++ x.2.Needs.drop j) ∧ m'.n = m.n + (x.2.Needs.length - j) := fun j hj =>
  up j hj (fun m a hm hn => ⟨m, by rw [walk_below.l1.v_eq, lss_nat, decide_eq_false (by simp)]; rfl, by rw [List.drop_length, List.append_nil]; exact hm, by omega⟩) (fun j hj ih m a hm hn => by
    have hl := hf.nl
    obtain ⟨m1, e1, e2, e3⟩ := put_set hm (by omega) (hf.ns _ (List.getElem_mem hj))
    obtain ⟨m', f1, f2, f3⟩ := ih m1 (a ++ [x.2.Needs[j]]) e2 (by omega)
    refine ⟨m', ?_, ?_, by omega⟩
    · rw [walk_below.l1.v_eq, lss_nat, decide_eq_true hj, cond_true, idx_nat hj, Option.bind_some, e1, Option.bind_some, wrap_nat (by simp [LIM] at hl; omega), f1]
    · rw [drop_cons hj]; simpa using f2)
theorem below_loop (t : ByteArray) : ∀ r : List (Int × Node), (∀ x, x ∈ r → nodeFits x.2 ∧ x.2.Needs.length ≤ 65) → ∀ m a, Marks m a → m.n + r.length * 65 < 9223372036854775807 → ∃ m', walk_below.l0.v t r m = some (.ok m') ∧ Marks m' ((r.map (·.2)).foldl (bstep t) a)
  | [], _, m, a, hm, _ => ⟨m, walk_below.l0.v_nil t m, hm⟩
  | x :: r, hr, m, a, hm, hn => by
    have hx := hr x (by simp)
    simp only [List.length_cons] at hn
    rw [walk_below.l0.v_cons, has_set hm hx.1.t]
    simp only [List.map_cons, List.foldl_cons, Option.bind_some]
    have hb : (bif scmp .neq x.2.Target t then some (!memB a x.2.Target) else some false) = some (!(decide (x.2.Target = t) || memB a x.2.Target)) := by
      rw [scmp_neq]
      cases decide (x.2.Target = t) <;> rfl
    rw [hb, Option.bind_some]
    unfold bstep
    cases hc : (decide (x.2.Target = t) || memB a x.2.Target) with
    | false =>
      rw [Bool.not_false, cond_true, cond_false, Option.bind_some]
      exact below_loop t r (fun y hy => hr y (by simp [hy])) m a hm (by omega)
    | true =>
      obtain ⟨m1, e1, e2, e3⟩ := bneeds_loop x hx.1 0 (Nat.zero_le _) m a hm (by omega)
      rw [Bool.not_true, cond_false, cond_true, show walk_below.l1.v x (m, (0 : Int)) = some m1 from e1, Option.bind_some, Option.bind_some]
      exact below_loop t r (fun y hy => hr y (by simp [hy])) m1 _ (by simpa using e2) (by omega)
theorem below_v (p : Plan) (hf : planFits p) (hp : PlanAt p) (t : ByteArray) : ∃ m, walk_below.v p t = some m ∧ Marks m (belowL p t) := by
  obtain ⟨m0, e1, e2, e3⟩ := setof_v [] (by simp) (fun x h => by cases h)
  have hmem : ∀ x, x ∈ backL p.Nodes p.Nodes.length → x.2 ∈ p.Nodes := fun x hx => by
    have h1 := backL_map p.Nodes p.Nodes.length (Nat.le_refl _)
    have h2 : x.2 ∈ (backL p.Nodes p.Nodes.length).map (·.2) := List.mem_map.2 ⟨x, hx, rfl⟩
    rw [h1, List.take_length] at h2
    exact List.mem_reverse.1 h2
  have hlen := hp.len
  obtain ⟨m, f1, f2⟩ := below_loop t (backL p.Nodes p.Nodes.length) (fun x hx => ⟨hf.n _ (hmem x hx), by
    obtain ⟨i, hi, e⟩ := List.getElem_of_mem (hmem x hx)
    rw [← e]; exact hp.nlen hi⟩) m0 [] e2 (by rw [backL_len _ _ (Nat.le_refl _)]; simp at e3; omega)
  refine ⟨m, ?_, ?_⟩
  · rw [walk_below.v_eq, e1, Option.bind_some, back_v _ (by have := hf.nl; simp [LIM] at *; omega), Option.bind_some, f1, Option.bind_some]
  · rw [backL_map _ _ (Nat.le_refl _), List.take_length] at f2; exact f2
/-! ### the reference's way -/
theorem skip_all (t : ByteArray) : ∀ l : List Node, (∀ n, n ∈ l → n.Target ≠ t) → l.foldl (bstep t) [] = []
  | [], _ => rfl
  | n :: l, h => by
    rw [List.foldl_cons]
    have : bstep t [] n = [] := by unfold bstep; rw [decide_eq_false (h n (by simp))]; rfl
    rw [this]
    exact skip_all t l (fun x hx => h x (by simp [hx]))
theorem belowL_at (p : Plan) (hp : PlanAt p) (i : Nat) (hi : i < p.Nodes.length) : belowL p p.Nodes[i].Target = (p.Nodes.take (i + 1)).reverse.foldl (bstep p.Nodes[i].Target) [] := by
  unfold belowL
  have e : p.Nodes.reverse = (p.Nodes.drop (i + 1)).reverse ++ (p.Nodes.take (i + 1)).reverse := by rw [← List.reverse_append, List.take_append_drop]
  rw [e, List.foldl_append, skip_all]
  intro n hn
  obtain ⟨q, hq, e2⟩ := List.mem_iff_getElem.1 (List.mem_reverse.1 hn)
  rw [List.getElem_drop] at e2
  have hq' : i + 1 + q < p.Nodes.length := by simp at hq; omega
  rw [← e2]
  exact fun h => by have := hp.inj hi hq' h; omega
/-! ### nothing is below itself -/
theorem below_lt (p : Plan) (hp : PlanAt p) (i : Nat) (hi : i < p.Nodes.length) : ∀ l : List Node, (∀ n, n ∈ l → ∃ k, ∃ hk : k ≤ i, p.Nodes[k]'(by omega) = n) → ∀ a : List ByteArray, (∀ x, x ∈ a → ∃ k, ∃ hk : k < i, (p.Nodes[k]'(by omega)).Target = x) → ∀ x, x ∈ l.foldl (bstep p.Nodes[i].Target) a → ∃ k, ∃ hk : k < i, (p.Nodes[k]'(by omega)).Target = x
  | [], _, a, ha, x, hx => ha x hx
  | n :: l, hl, a, ha, x, hx => by
    rw [List.foldl_cons] at hx
    refine below_lt p hp i hi l (fun y hy => hl y (by simp [hy])) _ (fun z hz => ?_) x hx
    unfold bstep at hz
    cases hc : (decide (n.Target = p.Nodes[i].Target) || memB a n.Target) with
    | false => rw [hc] at hz; exact ha z hz
    | true =>
      rw [hc, cond_true] at hz
      rcases List.mem_append.1 hz with hz | hz
      · exact ha z hz
      · obtain ⟨k, hk, e⟩ := hl n (by simp)
        subst e
        obtain ⟨q, hq, e⟩ := hp.needs (show k < p.Nodes.length by omega) hz
        exact ⟨q, by omega, e⟩
theorem belowL_lt (p : Plan) (hp : PlanAt p) (i : Nat) (hi : i < p.Nodes.length) (x : ByteArray) (hx : x ∈ belowL p p.Nodes[i].Target) : ∃ k, ∃ hk : k < i, (p.Nodes[k]'(by omega)).Target = x := by
  rw [belowL_at p hp i hi] at hx
  refine below_lt p hp i hi _ (fun n hn => ?_) [] (fun y hy => by cases hy) x hx
  obtain ⟨k, hk, e⟩ := List.mem_take_iff_getElem.1 (List.mem_reverse.1 hn)
  exact ⟨k, by omega, e⟩
/-! ### the exported functions -/
def apartB (p : Plan) (a b : ByteArray) : Bool := !decide (a = b) && !memB (belowL p a) b && !memB (belowL p b) a
theorem wApart_v (p : Plan) (hf : planFits p) (a b : ByteArray) (ha : a.size ≤ LIM) (hb : b.size ≤ LIM) : walk_Apart.v p a b = some (if askR p [a, b] = 0 then (apartB p a b, 0) else (false, askR p [a, b])) := by
  rw [walk_Apart.v_eq, asked_v p hf [a, b] (by simp [LIM]) (fun x hx => by
    rcases List.mem_cons.1 hx with rfl | hx
    · exact ha
    · rw [List.mem_singleton.1 hx]; exact hb), Option.bind_some]
  by_cases h : askR p [a, b] = 0
  · obtain ⟨m, e1, e2⟩ := below_v p hf (plan_at (ask_zero h).1) a
    obtain ⟨m', f1, f2⟩ := below_v p hf (plan_at (ask_zero h).1) b
    rw [if_pos h, h, e1, f1, scmp_neq]
    simp only [Option.bind_some]
    rw [has_set e2 hb, has_set f2 ha]
    unfold apartB
    cases decide (a = b) <;> cases memB (belowL p a) b <;> cases memB (belowL p b) a <;> rfl
  · rw [if_neg h, show icmp .neq (askR p [a, b]) 0 = true by simp [icmp, h]]; rfl
end Go.Proofs.Ytedgkcdofiildaa.F
