/- Chapter 14: how many orders there are, but at most two. -/
import Derived.Test.YtedgkcdofiildaaPbelowp
set_option linter.unusedVariables false
set_option linter.unusedSimpArgs false
set_option linter.unnecessarySimpa false
set_option linter.deprecated false
namespace Go.Proofs.Ytedgkcdofiildaa.F
open Go Go.RowKit Go.Proofs.Ytedgkcdofiildaa.Sl
theorem nodup_subW {α : Type} [DecidableEq α] : ∀ {l u : List α}, l.Nodup → (∀ x, x ∈ l → x ∈ u) → l.length ≤ u.length
  | [], _, _, _ => Nat.zero_le _
  | x :: l, u, h, hs => by
    obtain ⟨h1, h2⟩ := List.nodup_cons.1 h
    have h3 := nodup_subW (l := l) (u := u.erase x) h2 (fun y hy => (List.mem_erase_of_ne (fun e : y = x => h1 (e ▸ hy))).2 (hs y (List.mem_cons_of_mem _ hy)))
    have h4 := List.length_erase_of_mem (hs x (by simp))
    have : 0 < u.length := List.length_pos_of_mem (hs x (by simp))
    simp only [List.length_cons]; omega
/-! ### the numbers -/
def cfold (f : ByteArray → Nat → Nat) : List ByteArray → Nat → Nat
  | [], n => n
  | s :: t, n => bif decide (n = 2) then 2 else cfold f t (f s n)
def cn (p : Plan) : Nat → List ByteArray → Nat → Nat
  | 0, _, n => n + 1
  | l + 1, D, n => cfold (fun s n => cn p l (D ++ [s]) n) (nxR p D) n
theorem cfold_2 (f : ByteArray → Nat → Nat) : ∀ L, cfold f L 2 = 2
  | [] => rfl
  | _ :: _ => rfl
theorem cfold_ge (f : ByteArray → Nat → Nat) : ∀ (L : List ByteArray), (∀ s, s ∈ L → ∀ n, n < 2 → n < f s n ∧ f s n ≤ 2) → ∀ n, n ≤ 2 → n ≤ cfold f L n ∧ cfold f L n ≤ 2
  | [], _, n, h => ⟨Nat.le_refl _, h⟩
  | s :: t, hf, n, h => by
    simp only [cfold]
    by_cases e : n = 2
    · rw [decide_eq_true e, cond_true]; omega
    · rw [decide_eq_false e, cond_false]
      have h1 := hf s (by simp) n (by omega)
      have h2 := cfold_ge f t (fun s hs => hf s (List.mem_cons_of_mem _ hs)) (f s n) h1.2
      omega
theorem cfold_pos (f : ByteArray → Nat → Nat) {L : List ByteArray} (hL : L ≠ []) (hf : ∀ s, s ∈ L → ∀ n, n < 2 → n < f s n ∧ f s n ≤ 2) {n : Nat} (h : n < 2) : n < cfold f L n ∧ cfold f L n ≤ 2 := by
  cases L with
  | nil => exact absurd rfl hL
  | cons s t =>
    simp only [cfold]
    rw [decide_eq_false (by omega), cond_false]
    have h1 := hf s (by simp) n h
    have h2 := cfold_ge f t (fun s hs => hf s (List.mem_cons_of_mem _ hs)) (f s n) h1.2
    omega
theorem cfold_two (f : ByteArray → Nat → Nat) {L : List ByteArray} (hL : 2 ≤ L.length) (hf : ∀ s, s ∈ L → ∀ n, n < 2 → n < f s n ∧ f s n ≤ 2) {n : Nat} (h : n < 2) : cfold f L n = 2 := by
  match L, hL with
  | a :: b :: t, _ =>
    simp only [cfold]
    have h1 := hf a (by simp) n h
    rw [decide_eq_false (show ¬ n = 2 by omega), cond_false]
    by_cases e : f a n = 2
    · rw [decide_eq_true e, cond_true]
    · rw [decide_eq_false e, cond_false]
      have h2 := hf b (by simp) (f a n) (by omega)
      rw [show f b (f a n) = 2 by omega, cfold_2]
/-! ### sets of targets that are closed -/
structure Dn (p : Plan) (D : List ByteArray) (l : Nat) : Prop where
  sub : ∀ x, x ∈ D → x ∈ tgts p
  cl : ∀ i (h : i < p.Nodes.length), p.Nodes[i].Target ∈ D → ∀ y, y ∈ p.Nodes[i].Needs → y ∈ D
  nd : D.Nodup
  len : D.length + l = p.Nodes.length
theorem memB_not {l : List ByteArray} {x : ByteArray} : memB l x = false ↔ ¬ x ∈ l := ⟨(fun h k => by rw [memB_iff.2 k] at h; cases h), fun h => Bool.eq_false_iff.2 fun k => h (memB_iff.1 k)⟩
theorem nx_mem {p : Plan} {D : List ByteArray} {x : ByteArray} (h : x ∈ nxR p D) : ∃ i, ∃ hi : i < p.Nodes.length, p.Nodes[i].Target = x ∧ ¬ x ∈ D ∧ ∀ y, y ∈ p.Nodes[i].Needs → y ∈ D := by
  obtain ⟨n, hn, e⟩ := List.mem_map.1 h
  obtain ⟨h1, h2⟩ := List.mem_filter.1 hn
  obtain ⟨i, hi, ei⟩ := List.getElem_of_mem h1
  unfold nxB at h2
  simp only [Bool.and_eq_true, Bool.not_eq_true'] at h2
  subst ei
  exact ⟨i, hi, e, by rw [← e]; exact memB_not.1 h2.1, fun y hy => memB_iff.1 (List.all_eq_true.1 h2.2 y hy)⟩
theorem nx_of {p : Plan} {D : List ByteArray} {i : Nat} (hi : i < p.Nodes.length) (h1 : ¬ p.Nodes[i].Target ∈ D) (h2 : ∀ y, y ∈ p.Nodes[i].Needs → y ∈ D) : p.Nodes[i].Target ∈ nxR p D := by
  refine List.mem_map.2 ⟨p.Nodes[i], List.mem_filter.2 ⟨List.getElem_mem hi, ?_⟩, rfl⟩
  unfold nxB
  rw [memB_not.2 h1, List.all_eq_true.2 (fun y hy => memB_iff.2 (h2 y hy))]; rfl
theorem tgts_get {p : Plan} {i : Nat} (hi : i < p.Nodes.length) : p.Nodes[i].Target ∈ tgts p := List.mem_map.2 ⟨_, List.getElem_mem hi, rfl⟩
theorem nodes_pw {p : Plan} (hp : PlanAt p) : p.Nodes.Pairwise fun a b => a.Target ≠ b.Target := List.pairwise_iff_getElem.2 fun i j hi hj hij => hp.new hj hij
theorem tgts_nodup {p : Plan} (hp : PlanAt p) : (tgts p).Nodup := List.pairwise_map.2 (nodes_pw hp)
theorem nx_nodup {p : Plan} (hp : PlanAt p) (D : List ByteArray) : (nxR p D).Nodup := List.pairwise_map.2 ((nodes_pw hp).filter _)
theorem Dn.step {p : Plan} (hp : PlanAt p) {D : List ByteArray} {l : Nat} (h : Dn p D (l + 1)) {x : ByteArray} (hx : x ∈ nxR p D) : Dn p (D ++ [x]) l := by
  obtain ⟨i, hi, e, h1, h2⟩ := nx_mem hx
  refine ⟨fun y hy => ?_, fun k hk hm y hy => ?_, ?_, ?_⟩
  · rcases List.mem_append.1 hy with k | k
    · exact h.sub y k
    · rw [List.mem_singleton.1 k, ← e]; exact tgts_get hi
  · rcases List.mem_append.1 hm with q | q
    · exact List.mem_append_left _ (h.cl k hk q y hy)
    · have := hp.inj hi hk ((List.mem_singleton.1 q).trans e.symm)
      subst this
      exact List.mem_append_left _ (h2 y hy)
  · refine List.nodup_append.2 ⟨h.nd, by simp, fun a ha b hb q => ?_⟩
    rw [List.mem_singleton.1 hb] at q
    subst q
    exact h1 ha
  · have := h.len
    simp only [List.length_append, List.length_singleton]; omega
theorem Dn.ne {p : Plan} (hp : PlanAt p) {D : List ByteArray} {l : Nat} (h : Dn p D (l + 1)) : nxR p D ≠ [] := fun hn => by
  have hall : ∀ n i (hi : i < p.Nodes.length), i < n → p.Nodes[i].Target ∈ D := by
    intro n
    induction n with
    | zero => intro i hi h; exact absurd h (Nat.not_lt_zero _)
    | succ n ih =>
      intro i hi hin
      by_cases hm : p.Nodes[i].Target ∈ D
      · exact hm
      · have := nx_of hi hm (fun y hy => by
          obtain ⟨k, hk, e⟩ := hp.needs hi hy
          rw [← e]
          exact ih k (by omega) (by omega))
        rw [hn] at this
        cases this
  have h1 := nodup_subW (tgts_nodup hp) (u := D) (fun x hx => by
    obtain ⟨n, hn, e⟩ := List.mem_map.1 hx
    obtain ⟨i, hi, ei⟩ := List.getElem_of_mem hn
    rw [← e, ← ei]
    exact hall (i + 1) i hi (by omega))
  have h2 := h.len
  unfold tgts at h1
  rw [List.length_map] at h1
  omega
theorem cn_ge {p : Plan} (hp : PlanAt p) : ∀ l D n, Dn p D l → n < 2 → n < cn p l D n ∧ cn p l D n ≤ 2
  | 0, D, n, _, h => by simp only [cn]; omega
  | l + 1, D, n, hd, h => cfold_pos _ (hd.ne hp) (fun s hs n hn => cn_ge hp l (D ++ [s]) n (hd.step hp hs) hn) h
/-- Each target needs the one ahead of it. -/
def Chain (p : Plan) : Prop := ∀ i (h : i + 1 < p.Nodes.length), p.Nodes[i].Target ∈ p.Nodes[i + 1].Needs
theorem Dn.down {p : Plan} (hc : Chain p) {D : List ByteArray} {l : Nat} (h : Dn p D l) : ∀ k (hk : k < p.Nodes.length), p.Nodes[k].Target ∈ D → ∀ i (hi : i ≤ k), (p.Nodes[i]'(by omega)).Target ∈ D
  | 0, hk, hm, i, hi => by
    have : i = 0 := by omega
    subst this; exact hm
  | k + 1, hk, hm, i, hi => by
    rcases Nat.lt_or_ge k i with h1 | h1
    · have : i = k + 1 := by omega
      subst this; exact hm
    · exact Dn.down hc h k (by omega) (h.cl (k + 1) hk hm _ (hc k hk)) i h1
theorem len_one {l : List ByteArray} (hn : l.Nodup) (h : ∀ x y, x ∈ l → y ∈ l → x = y) : l.length ≤ 1 := by
  match l, hn, h with
  | [], _, _ => simp
  | [x], _, _ => simp
  | x :: y :: t, hn, h =>
    have h1 := (List.nodup_cons.1 hn).1
    exact absurd (h x y (by simp) (by simp)) (fun e => h1 (by rw [e]; simp))
theorem chain_nx {p : Plan} (hp : PlanAt p) (hc : Chain p) {D : List ByteArray} {l : Nat} (h : Dn p D l) : (nxR p D).length ≤ 1 := by
  have key : ∀ i k (hi : i < p.Nodes.length) (hk : k < p.Nodes.length), i < k → ¬ p.Nodes[i].Target ∈ D → (∀ y, y ∈ p.Nodes[k].Needs → y ∈ D) → False := fun i k hi hk hik h1 h2 => by
    obtain ⟨k, rfl⟩ : ∃ q, k = q + 1 := ⟨k - 1, by omega⟩
    exact h1 (h.down hc k (by omega) (h2 _ (hc k hk)) i (by omega))
  refine len_one (nx_nodup hp D) fun x y hx hy => ?_
  obtain ⟨i, hi, ei, i1, i2⟩ := nx_mem hx
  obtain ⟨k, hk, ek, k1, k2⟩ := nx_mem hy
  rcases Nat.lt_trichotomy i k with q | q | q
  · exact (key i k hi hk q (by rw [ei]; exact i1) k2).elim
  · subst q; rw [← ei, ← ek]
  · exact (key k i hk hi q (by rw [ek]; exact k1) i2).elim
theorem cn_one {p : Plan} (hp : PlanAt p) (hc : Chain p) : ∀ l D n, Dn p D l → n < 2 → cn p l D n = n + 1
  | 0, D, n, _, h => rfl
  | l + 1, D, n, hd, h => by
    have h1 := hd.ne hp
    have h2 := chain_nx hp hc hd
    have h3 : ∀ s, s ∈ nxR p D → cn p l (D ++ [s]) n = n + 1 := fun s hs => cn_one hp hc l (D ++ [s]) n (hd.step hp hs) h
    show cfold (fun s n => cn p l (D ++ [s]) n) (nxR p D) n = n + 1
    match nxR p D, h1, h2, h3 with
    | [x], _, _, h3 =>
      simp only [cfold]
      rw [decide_eq_false (show ¬ n = 2 by omega), cond_false]
      exact h3 x (by simp)
theorem cn_two {p : Plan} (hp : PlanAt p) : ∀ l i D, Dn p D l → i + l = p.Nodes.length → (∀ x, x ∈ D ↔ ∃ k, ∃ hk : k < p.Nodes.length, k < i ∧ p.Nodes[k].Target = x) → (∃ j, ∃ hj : j + 1 < p.Nodes.length, i ≤ j ∧ ¬ p.Nodes[j].Target ∈ p.Nodes[j + 1].Needs) → cn p l D 0 = 2
  | 0, i, D, _, hl, _, ⟨j, hj, hij, _⟩ => absurd hl (by omega)
  | l + 1, i, D, hd, hl, hD, ⟨j, hj, hij, hnj⟩ => by
    have hi : i < p.Nodes.length := by omega
    have hav : ∀ q (hq : q < p.Nodes.length), i ≤ q → (∀ y, y ∈ p.Nodes[q].Needs → y ∈ D) → p.Nodes[q].Target ∈ nxR p D := fun q hq hiq hn => nx_of hq (fun hm => by
      obtain ⟨k, hk, hki, e⟩ := (hD _).1 hm
      exact hp.new hq (show k < q by omega) e) hn
    have h0 : p.Nodes[i].Target ∈ nxR p D := hav i hi (Nat.le_refl _) (fun y hy => by
      obtain ⟨k, hk, e⟩ := hp.needs hi hy
      exact (hD y).2 ⟨k, by omega, hk, e⟩)
    show cfold (fun s n => cn p l (D ++ [s]) n) (nxR p D) 0 = 2
    rcases Nat.lt_or_ge (nxR p D).length 2 with h2 | h2
    · have h1 : nxR p D = [p.Nodes[i].Target] := by
        match nxR p D, h0, h2 with
        | [x], h0, _ => rw [List.mem_singleton.1 h0]
        | [], h0, _ => cases h0
      have hne : j ≠ i := fun e => by
        subst e
        have := hav (j + 1) hj (by omega) (fun y hy => by
          obtain ⟨k, hk, e⟩ := hp.needs hj hy
          refine (hD y).2 ⟨k, by omega, ?_, e⟩
          rcases Nat.lt_or_ge k j with h | h
          · exact h
          · have : k = j := by omega
            subst this
            rw [← e] at hy
            exact absurd hy hnj)
        rw [h1] at this
        exact hp.new hj (Nat.lt_succ_self j) (List.mem_singleton.1 this).symm
      rw [h1]
      show cn p l (D ++ [p.Nodes[i].Target]) 0 = 2
      refine cn_two hp l (i + 1) _ (hd.step hp h0) (by omega) (fun x => ?_) ⟨j, hj, by omega, hnj⟩
      rw [List.mem_append, hD, List.mem_singleton]
      constructor
      · rintro (⟨k, hk, h3, e⟩ | rfl)
        · exact ⟨k, hk, by omega, e⟩
        · exact ⟨i, hi, by omega, rfl⟩
      · rintro ⟨k, hk, h3, e⟩
        rcases Nat.lt_or_ge k i with h | h
        · exact .inl ⟨k, hk, h, e⟩
        · have : k = i := by omega
          subst this
          exact .inr e.symm
    · exact cfold_two _ h2 (fun s hs n hn => cn_ge hp l (D ++ [s]) n (hd.step hp hs) hn) (by omega)
/-! ### the program's way -/
theorem marks_del {m : GM Int} {D : List ByteArray} {s : ByteArray} (h : Marks m (D ++ [s])) (hs : ¬ s ∈ D) : Marks ⟨m.n, fun t => if t = s then none else m.g t⟩ D := fun x => by
  have h1 := h x
  rw [memB_app] at h1
  by_cases e : x = s
  · subst e
    rw [memB_not.2 hs]
    simp
  · simp only [if_neg e]
    rw [h1]
    rw [show memB [s] x = (decide (s = x) || false) from rfl, decide_eq_false (fun k => e k.symm)]
    simp
theorem gdel_some {α : Type} {m : GM α} {s : ByteArray} (hs : s.size ≤ LIM) : gdel m s = some ⟨m.n, fun t => if t = s then none else m.g t⟩ := by
  unfold gdel
  rw [if_pos (by simp [LIM] at hs; omega)]
def valE {α : Type} : Except α α → α
  | .error q => q
  | .ok q => q
def wgt (n l : Nat) : Nat := bif decide (n = 0) then 2 * l else bif decide (n = 1) then l else 0
theorem eql_two (n : Nat) : icmp .eql (n : Int) (2 : Int) = decide (n = 2) := eql_nat n 2
theorem on_loop (p : Plan) (hf : planFits p) (hp : PlanAt p) (l : Nat) (hl : l ≤ 256) (D : List ByteArray) (hd : Dn p D (l + 1))
    (ih : ∀ D n m, Dn p D l → Marks m D → n < 2 → m.n + wgt n l ≤ 100000 → ∃ m', (∃ K, ∀ k, K ≤ k → walk_Count_1.f k p 2 (l : Int) (n : Int) m = some ((cn p l D n : Int), m')) ∧ Marks m' D ∧ m'.n + wgt (cn p l D n) l ≤ m.n + wgt n l) :
    ∀ (t pre : List ByteArray), nxR p D = pre ++ t → ∀ n m, n ≤ 2 → Marks m D → m.n + wgt n (l + 1) ≤ 100000 →
      ∃ r, (∃ K, ∀ k j, K ≤ k → K ≤ j → walk_Count_1.l0 2 (walk_Count_1.f k p 2) ((l + 1 : Nat) : Int) (nxR p D) j ((n : Int), m, (pre.length : Int)) = some r) ∧ (valE r).1 = (cfold (fun s n => cn p l (D ++ [s]) n) t n : Int) ∧ Marks (valE r).2 D ∧ (valE r).2.n + wgt (cfold (fun s n => cn p l (D ++ [s]) n) t n) (l + 1) ≤ m.n + wgt n (l + 1) := by
  intro t
  have hnl : (nxR p D).length ≤ 256 := by
    have h1 := nodup_subW (nx_nodup hp D) (u := tgts p) (fun x hx => by
      obtain ⟨i, hi, e, _⟩ := nx_mem hx
      rw [← e]; exact tgts_get hi)
    have := hp.len
    unfold tgts at h1
    rw [List.length_map] at h1
    omega
  induction t with
  | nil =>
    intro pre hL n m hn hm hb
    refine ⟨.ok ((n : Int), m), ⟨1, fun k j hk hj => ?_⟩, rfl, hm, Nat.le_refl _⟩
    obtain ⟨j, rfl⟩ : ∃ q, j = q + 1 := ⟨j - 1, by omega⟩
    rw [hL, List.append_nil, walk_Count_1.l0, lss_nat, decide_eq_false (by omega)]; rfl
  | cons s t iht =>
    intro pre hL n m hn hm hb
    have hpl : pre.length < (nxR p D).length := by rw [hL]; simp
    have hsg : (nxR p D)[pre.length] = s := by simp [hL]
    have hsm : s ∈ nxR p D := by rw [hL]; simp
    have hL' : nxR p D = (pre ++ [s]) ++ t := by rw [hL]; simp
    by_cases e : n = 2
    · subst e
      refine ⟨.error ((2 : Int), m), ⟨1, fun k j hk hj => ?_⟩, rfl, hm, Nat.le_refl _⟩
      obtain ⟨j, rfl⟩ : ∃ q, j = q + 1 := ⟨j - 1, by omega⟩
      rw [walk_Count_1.l0, lss_nat, decide_eq_true hpl, cond_true, idx_nat hpl]
      rfl
    · obtain ⟨i, hi, ei, i1, i2⟩ := nx_mem hsm
      have hss : s.size ≤ LIM := by rw [← ei]; exact (hf.n _ (List.getElem_mem hi)).t
      obtain ⟨m1, p1, p2, p3⟩ := put_set hm (by omega) hss
      have hd' := hd.step hp hsm
      have hcn := cn_ge hp l (D ++ [s]) n hd' (by omega)
      have hw : n = 0 ∨ n = 1 := by omega
      have hc : cn p l (D ++ [s]) n = 1 ∨ cn p l (D ++ [s]) n = 2 := by omega
      obtain ⟨m2, ⟨K1, q1⟩, q2, q3⟩ := ih (D ++ [s]) n m1 hd' p2 (by omega) (by
        rcases hw with rfl | rfl <;> simp only [wgt, decide_true, cond_true, cond_false, show decide ((1 : Nat) = 0) = false from rfl] at hb ⊢ <;> omega)
      have hd3 := marks_del q2 i1
      have hb3 : m2.n + wgt (cn p l (D ++ [s]) n) (l + 1) ≤ m.n + wgt n (l + 1) := by
        rcases hw with rfl | rfl <;> rcases hc with h | h <;> rw [h] at q3 hcn ⊢ <;> simp only [wgt, decide_true, cond_true, cond_false, show decide ((1 : Nat) = 0) = false from rfl, show decide ((2 : Nat) = 0) = false from rfl, show decide ((2 : Nat) = 1) = false from rfl] at q3 ⊢ <;> omega
      obtain ⟨r, ⟨K2, r1⟩, r2, r3, r4⟩ := iht (pre ++ [s]) hL' (cn p l (D ++ [s]) n) ⟨m2.n, fun t => if t = s then none else m2.g t⟩ hcn.2 hd3 (by simp only; omega)
      refine ⟨r, ⟨K1 + K2 + 1, fun k j hk hj => ?_⟩, ?_, r3, ?_⟩
      · obtain ⟨j, rfl⟩ : ∃ q, j = q + 1 := ⟨j - 1, by omega⟩
        have r1' := r1 k j (by omega) (by omega)
        have hpred : IntKind.i64.wrap (((l + 1 : Nat) : Int) - (1 : Int)) = (l : Int) := by
          simp [IntKind.wrap, IntKind.signed, IntKind.bits]
          split <;> omega
        rw [walk_Count_1.l0]
        simp only
        rw [lss_nat, decide_eq_true hpl, cond_true, idx_nat hpl, Option.bind_some, eql_two, decide_eq_false e, cond_false, hsg, p1, Option.bind_some, hpred, q1 k (by omega), Option.bind_some]
        simp only
        rw [gdel_some hss, Option.bind_some, wrap_nat (by omega), ← r1']
        congr 3
        simp
      · rw [r2, cfold, decide_eq_false e, cond_false]
      · rw [cfold, decide_eq_false e, cond_false]
        simp only at r4
        omega
theorem on_ev (p : Plan) (hf : planFits p) (hp : PlanAt p) : ∀ l D n m, l ≤ 256 → Dn p D l → Marks m D → n < 2 → m.n + wgt n l ≤ 100000 → ∃ m', (∃ K, ∀ k, K ≤ k → walk_Count_1.f k p 2 (l : Int) (n : Int) m = some ((cn p l D n : Int), m')) ∧ Marks m' D ∧ m'.n + wgt (cn p l D n) l ≤ m.n + wgt n l
  | 0, D, n, m, _, hd, hm, hn, hb => by
    refine ⟨m, ⟨1, fun k hk => ?_⟩, hm, ?_⟩
    · obtain ⟨k, rfl⟩ : ∃ q, k = q + 1 := ⟨k - 1, by omega⟩
      rw [walk_Count_1.f, walk_Count_1.g, show icmp .eql (((0 : Nat) : Int)) (0 : Int) = true from rfl, cond_true, wrap_nat (by omega)]; rfl
    · unfold wgt
      cases decide (n = 0) <;> cases decide (n = 1) <;> cases decide (cn p 0 D n = 0) <;> cases decide (cn p 0 D n = 1) <;> simp
  | l + 1, D, n, m, hl, hd, hm, hn, hb => by
    obtain ⟨r, ⟨K, h1⟩, h2, h3, h4⟩ := on_loop p hf hp l (by omega) D hd (fun D n m => on_ev p hf hp l D n m (by omega)) (nxR p D) [] rfl n m (by omega) hm hb
    obtain ⟨K2, h5⟩ := (walk_next.tends p ⟨m⟩).2 _ (next_v p hf m D hm)
    refine ⟨(valE r).2, ⟨K + K2 + 1, fun k hk => ?_⟩, h3, h4⟩
    obtain ⟨k, rfl⟩ : ∃ q, k = q + 1 := ⟨k - 1, by omega⟩
    have h1' := h1 k k (by omega) (by omega)
    rw [walk_Count_1.f, walk_Count_1.g, show icmp .eql (((l + 1 : Nat) : Int)) (0 : Int) = false from (eql_nat _ 0).trans (decide_eq_false (by omega)), cond_false, show walk_next.f k p ⟨m⟩ = some (nxR p D) from h5 k (by omega), Option.bind_some, show walk_Count_1.l0 2 (walk_Count_1.f k p 2) ((l + 1 : Nat) : Int) (nxR p D) k ((n : Int), m, (0 : Int)) = some r from h1', Option.bind_some]
    have h6 : valE r = ((cn p (l + 1) D n : Int), (valE r).2) := by
      rw [← show (valE r).1 = (cn p (l + 1) D n : Int) from h2]
    rw [← h6]
    cases r <;> rfl
theorem ask_nil {p : Plan} (h : planOk p = true) : askR p [] = 0 := by
  unfold askR
  rw [h]; rfl
theorem count_v (p : Plan) (hf : planFits p) (h : planOk p = true) : walk_Count.v p 2 = some ((cn p p.Nodes.length [] 0 : Int), 0) := by
  have hp := plan_at h
  obtain ⟨m, e1, e2, e3⟩ := setof_v [] (by simp [LIM]) (fun x hx => by cases hx)
  have hl := hp.len
  obtain ⟨m', ⟨K, h1⟩, _⟩ := on_ev p hf hp p.Nodes.length [] 0 m hl ⟨(fun x hx => by cases hx), (fun i hi hm => by cases hm), List.nodup_nil, by simp⟩ e2 (by omega) (by
    simp only [List.length_nil] at e3
    simp only [wgt, decide_true, cond_true]
    omega)
  rw [walk_Count.v_eq, asked_v p hf [] (by simp [LIM]) (fun x hx => by cases hx), ask_nil h, Option.bind_some, show icmp .neq (0 : Int) (0 : Int) = false from rfl, cond_false, show icmp .lss (2 : Int) (1 : Int) = false from rfl, show icmp .gtr (2 : Int) (10000 : Int) = false from rfl, cond_false, Option.bind_some, cond_false, e1, Option.bind_some, show walk_Count_1.v p 2 (p.Nodes.length : Int) (0 : Int) m = _ from (walk_Count_1.tends p 2 _ _ m).at K (h1 K (Nat.le_refl _))]
  rfl
/-! ### apart -/
theorem fold_mono (t : ByteArray) : ∀ (l : List Node) (a : List ByteArray) (x : ByteArray), x ∈ a → x ∈ l.foldl (bstep t) a
  | [], _, _, h => h
  | n :: l, a, x, h => by
    rw [List.foldl_cons]
    refine fold_mono t l _ x ?_
    unfold bstep
    cases (decide (n.Target = t) || memB a n.Target)
    · exact h
    · exact List.mem_append_left _ h
theorem chain_below {p : Plan} (hp : PlanAt p) (hc : Chain p) {i : Nat} (hi : i < p.Nodes.length) : ∀ d k, k + 1 + d = i → (hk : k < p.Nodes.length) → p.Nodes[k].Target ∈ (((p.Nodes.take (i + 1)).drop (k + 1)).reverse.foldl (bstep p.Nodes[i].Target) [])
  | 0, k, e, hk => by
    have e' : i = k + 1 := by omega
    subst e'
    have : (p.Nodes.take (k + 1 + 1)).drop (k + 1) = [p.Nodes[k + 1]] := by
      rw [List.take_add_one, List.getElem?_eq_getElem hi, List.drop_append_of_le_length (by simp; omega)]
      simp
    rw [this]
    show p.Nodes[k].Target ∈ bstep p.Nodes[k + 1].Target [] p.Nodes[k + 1]
    unfold bstep
    rw [decide_eq_true rfl, Bool.true_or, cond_true]
    exact hc k hi
  | d + 1, k, e, hk => by
    have h1 := chain_below hp hc hi d (k + 1) (by omega) (by omega)
    have : (p.Nodes.take (i + 1)).drop (k + 1) = p.Nodes[k + 1] :: (p.Nodes.take (i + 1)).drop (k + 1 + 1) := by
      rw [List.drop_eq_getElem_cons (by simp; omega)]
      congr 1
      exact List.getElem_take
    rw [this, List.reverse_cons, List.foldl_append]
    generalize (((p.Nodes.take (i + 1)).drop (k + 1 + 1)).reverse.foldl (bstep p.Nodes[i].Target) []) = A at h1 ⊢
    show _ ∈ bstep _ A p.Nodes[k + 1]
    unfold bstep
    rw [memB_iff.2 h1, Bool.or_true, cond_true]
    exact List.mem_append_right _ (hc k (by omega))
theorem chain_not {p : Plan} (hp : PlanAt p) (hc : Chain p) {i k : Nat} (hi : i < p.Nodes.length) (hk : k < i) : apartB p p.Nodes[i].Target (p.Nodes[k]'(by omega)).Target = false := by
  have h1 : (p.Nodes[k]'(by omega)).Target ∈ belowL p p.Nodes[i].Target := by
    rw [belowL_at p hp i hi]
    have h2 := chain_below hp hc hi (i - (k + 1)) k (by omega) (by omega)
    have e : (p.Nodes.take (i + 1)).reverse = ((p.Nodes.take (i + 1)).drop (k + 1)).reverse ++ ((p.Nodes.take (i + 1)).take (k + 1)).reverse := by
      rw [← List.reverse_append, List.take_append_drop]
    rw [e, List.foldl_append]
    exact fold_mono _ _ _ _ h2
  unfold apartB
  rw [memB_iff.2 h1]
  simp
theorem fold_less {p : Plan} (hp : PlanAt p) {i : Nat} (hi : i < p.Nodes.length) (t : ByteArray) : ∀ l : List Node, (∀ n, n ∈ l → n.Target ≠ t ∧ ∃ k, ∃ hk : k < p.Nodes.length, p.Nodes[k] = n) → ∀ a : List ByteArray, (∀ x, x ∈ a → ∃ k, ∃ hk : k < p.Nodes.length, k < i ∧ p.Nodes[k].Target = x) → ∀ x, x ∈ l.foldl (bstep t) a → ∃ k, ∃ hk : k < p.Nodes.length, k < i ∧ p.Nodes[k].Target = x
  | [], _, a, ha, x, hx => ha x hx
  | n :: l, hl, a, ha, x, hx => by
    rw [List.foldl_cons] at hx
    refine fold_less hp hi t l (fun n hn => hl n (List.mem_cons_of_mem _ hn)) _ (fun y hy => ?_) x hx
    obtain ⟨h1, q, hq, e⟩ := hl n (by simp)
    unfold bstep at hy
    rw [decide_eq_false h1, Bool.false_or] at hy
    cases hm : memB a n.Target with
    | false => rw [hm] at hy; exact ha y hy
    | true =>
      rw [hm] at hy
      rcases List.mem_append.1 hy with h | h
      · exact ha y h
      · obtain ⟨k, hk, hki, e2⟩ := ha _ (memB_iff.1 hm)
        subst e
        have := hp.inj hq hk e2
        subst this
        obtain ⟨z, hz, e3⟩ := hp.needs hq h
        exact ⟨z, by omega, by omega, e3⟩
theorem not_chain {p : Plan} (hp : PlanAt p) {i : Nat} (hi : i + 1 < p.Nodes.length) (hn : ¬ p.Nodes[i].Target ∈ p.Nodes[i + 1].Needs) : apartB p p.Nodes[i + 1].Target p.Nodes[i].Target = true := by
  have h1 : memB (belowL p p.Nodes[i + 1].Target) p.Nodes[i].Target = false := memB_not.2 fun hm => by
    rw [belowL_at p hp (i + 1) hi] at hm
    have e : (p.Nodes.take (i + 1 + 1)).reverse = p.Nodes[i + 1] :: (p.Nodes.take (i + 1)).reverse := by
      rw [List.take_add_one, List.getElem?_eq_getElem hi]; simp
    rw [e, List.foldl_cons] at hm
    have hb : bstep p.Nodes[i + 1].Target [] p.Nodes[i + 1] = p.Nodes[i + 1].Needs := by
      unfold bstep
      rw [decide_eq_true rfl]; simp
    rw [hb] at hm
    obtain ⟨k, hk, hki, e2⟩ := fold_less hp (show i < p.Nodes.length by omega) p.Nodes[i + 1].Target (p.Nodes.take (i + 1)).reverse (fun n hn' => by
      obtain ⟨q, hq, e3⟩ := List.mem_take_iff_getElem.1 (List.mem_reverse.1 hn')
      refine ⟨?_, q, by omega, e3⟩
      rw [← e3]
      exact hp.new hi (by omega)) p.Nodes[i + 1].Needs (fun x hx => by
      obtain ⟨k, hk, e3⟩ := hp.needs hi hx
      refine ⟨k, by omega, ?_, e3⟩
      rcases Nat.lt_or_ge k i with h | h
      · exact h
      · have : k = i := by omega
        subst this
        rw [← e3] at hx
        exact absurd hx hn) _ hm
    have := hp.inj (show i < p.Nodes.length by omega) hk e2
    omega
  have h2 : memB (belowL p p.Nodes[i].Target) p.Nodes[i + 1].Target = false := memB_not.2 fun hm => by
    obtain ⟨k, hk, e⟩ := belowL_lt p hp i (by omega) _ hm
    have := hp.inj hi (by omega) e
    omega
  unfold apartB
  rw [h1, h2, decide_eq_false (fun e => hp.new hi (Nat.lt_succ_self i) e.symm)]
  rfl
end Go.Proofs.Ytedgkcdofiildaa.F
