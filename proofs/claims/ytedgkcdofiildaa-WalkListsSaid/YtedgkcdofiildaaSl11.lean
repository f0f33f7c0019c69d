/- A region that draws its order: what each operation adds, whichever comes first. -/
import Derived.Test.YtedgkcdofiildaaSl10
set_option linter.unusedVariables false
set_option linter.unusedSimpArgs false
namespace Go.Proofs.Ytedgkcdofiildaa.Sl
open Go Go.RowKit
theorem has_app {e : Ent} {Γ : List Ent} : ∀ {L : List Ent} {ks : List Nat}, (∀ x, x ∈ L → ¬ x.key ∈ e.deps) → Has ks Γ e → Has ks (L ++ Γ) e
  | [], _, _, h => h
  | x :: L, ks, hL, h => .there (has_app (fun y hy => hL y (List.mem_cons_of_mem _ hy)) (h.kill (hL x (by simp))))
theorem has_right {e : Ent} {ks : List Nat} {L Γ : List Ent} (h : Has ks L e) : Has ks (L ++ Γ) e := by
  induction h with
  | here h => exact .here h
  | there _ ih => exact .there ih
theorem has_split {e : Ent} {Γ : List Ent} : ∀ {L : List Ent} {ks : List Nat}, Has ks (L ++ Γ) e → Has ks L e ∨ ∃ ks', Has ks' Γ e ∧ (∀ x, x ∈ L → x.key ∈ ks') ∧ ∀ k, k ∈ ks → k ∈ ks'
  | [], ks, h => .inr ⟨ks, h, fun x hx => by simp at hx, fun k hk => hk⟩
  | x :: L, ks, h => by
    cases h with
    | here h => exact .inl (.here h)
    | there h =>
      rcases has_split h with h | ⟨ks', h1, h2, h3⟩
      · exact .inl (.there h)
      · refine .inr ⟨ks', h1, fun y hy => ?_, fun k hk => h3 k (List.mem_cons_of_mem _ hk)⟩
        rcases List.mem_cons.1 hy with rfl | hy
        · exact h3 _ List.mem_cons_self
        · exact h2 y hy
/-- Something in L hides e. -/
def kills (L : List Ent) (e : Ent) : Bool := L.any fun x => e.deps.elem x.key
theorem kills_false {L : List Ent} {e : Ent} (h : kills L e = false) : ∀ x, x ∈ L → ¬ x.key ∈ e.deps := fun x hx hm => by
  have : kills L e = true := List.any_eq_true.2 ⟨x, hx, by simpa using hm⟩
  rw [h] at this; cases this
/-- Operation k stands ahead of operation j by an edge of its own. -/
def dir (l : List Oper) (k j : Nat) : Bool := match l[j]? with | some o => o.after.toList.any fun e => e.on == k && Region.binds .any e | none => false
/-- Operation k stands ahead of operation j by a chain of edges. -/
def pre (l : List Oper) : Nat → Nat → Nat → Bool
  | 0, k, j => dir l k j
  | n + 1, k, j => dir l k j || (List.range l.length).any fun m => dir l m j && pre l n k m
/-- What operation i needs: out of the parts that operation j adds, or (none) of what was known. -/
def needOk (l : List Oper) (L : List (List Ent)) (i : Nat) : Option Nat × Ent → Bool
  | (some j, e) => pre l 4 j i && (List.range l.length).all fun k => k == j || k == i || !kills (L.getD k []) e || pre l 2 k j || pre l 2 i k
  | (none, e) => (List.range l.length).all fun k => k == i || !kills (L.getD k []) e || pre l 2 i k
def needHas (L : List (List Ent)) (Γ0 : List Ent) : Option Nat × Ent → Prop
  | (some j, e) => Has [] (L.getD j []) e
  | (none, e) => Has [] Γ0 e
def finOk (l : List Oper) (L : List (List Ent)) : Bool :=
  (List.range l.length).all fun j => (List.range j).all fun k => (L.getD j []).all fun e => !kills (L.getD k []) e || dir l k j
def edgesOk (l : List Oper) : Bool := (List.range l.length).all fun i => match l[i]? with | some o => o.after.toList.all fun e => !Region.binds .any e || Nat.blt e.on i | none => true
def ΓD (L : List (List Ent)) (Γ0 : List Ent) (D : List Nat) : List Ent := D.flatMap (fun i => L.getD i []) ++ Γ0
/-- D: what has come up, the last one first. -/
def Down (l : List Oper) : List Nat → Prop
  | [] => True
  | i :: D => (∀ k, dir l k i = true → k ∈ D) ∧ i ∉ D ∧ i < l.length ∧ Down l D
theorem Down.split {l : List Oper} {j : Nat} : ∀ {D : List Nat}, Down l D → j ∈ D → ∃ D1 D2, D = D1 ++ j :: D2 ∧ (∀ k, dir l k j = true → k ∈ D2) ∧ (∀ k, k ∈ D1 → k ≠ j ∧ k ∉ D2) ∧ Down l D2
  | i :: D, h, hj => by
    obtain ⟨h1, h2, h3, h4⟩ := h
    by_cases e : j = i
    · subst e
      exact ⟨[], D, rfl, h1, (fun k hk => by simp at hk), h4⟩
    · have hj' : j ∈ D := by
        rcases List.mem_cons.1 hj with h | h
        · exact absurd h e
        · exact h
      obtain ⟨D1, D2, rfl, g1, g2, g3⟩ := Down.split h4 hj'
      refine ⟨i :: D1, D2, rfl, g1, (fun k hk => ?_), g3⟩
      rcases List.mem_cons.1 hk with rfl | hk
      · exact ⟨fun e' => e e'.symm, fun hm => h2 (by simp [hm])⟩
      · exact g2 k hk
theorem Down.lt {l : List Oper} : ∀ {D : List Nat}, Down l D → ∀ k, k ∈ D → k < l.length
  | i :: D, h, k, hk => by
    rcases List.mem_cons.1 hk with rfl | hk
    · exact h.2.2.1
    · exact Down.lt h.2.2.2 k hk
theorem Down.dir {l : List Oper} : ∀ {D : List Nat}, Down l D → ∀ i k, i ∈ D → dir l k i = true → k ∈ D
  | x :: D, h, i, k, hi, hd => by
    rcases List.mem_cons.1 hi with rfl | hi
    · exact List.mem_cons_of_mem _ (h.1 k hd)
    · exact List.mem_cons_of_mem _ (Down.dir h.2.2.2 i k hi hd)
theorem Down.pre {l : List Oper} {D : List Nat} (h : Down l D) : ∀ n i k, i ∈ D → pre l n k i = true → k ∈ D
  | 0, i, k, hi, hp => h.dir i k hi hp
  | n + 1, i, k, hi, hp => by
    simp only [Sl.pre, Bool.or_eq_true, List.any_eq_true, Bool.and_eq_true] at hp
    rcases hp with hp | ⟨m, _, h1, h2⟩
    · exact h.dir i k hi hp
    · exact Down.pre h n m k (h.dir i m hi h1) h2
theorem pre_of {l : List Oper} {D : List Nat} (h : Down l D) {i : Nat} (hr : ∀ k, Sl.dir l k i = true → k ∈ D) : ∀ n k, pre l n k i = true → k ∈ D
  | 0, k, hp => hr k hp
  | n + 1, k, hp => by
    simp only [Sl.pre, Bool.or_eq_true, List.any_eq_true, Bool.and_eq_true] at hp
    rcases hp with hp | ⟨m, _, h1, h2⟩
    · exact hr k hp
    · exact h.pre n m k (hr m h1) h2
theorem mem_flat {L : List (List Ent)} {D : List Nat} {x : Ent} (h : x ∈ D.flatMap (fun i => L.getD i [])) : ∃ k, k ∈ D ∧ x ∈ L.getD k [] := List.mem_flatMap.1 h
theorem need_has {l : List Oper} {L : List (List Ent)} {Γ0 : List Ent} {D : List Nat} {i : Nat} {p : Option Nat × Ent} (hD : Down l D) (hi : i ∉ D) (hr : ∀ k, dir l k i = true → k ∈ D) (h1 : needOk l L i p = true) (h2 : needHas L Γ0 p) : Has [] (ΓD L Γ0 D) p.2 := by
  obtain ⟨src, e⟩ := p
  cases src with
  | none =>
    simp only [needOk, List.all_eq_true, List.mem_range] at h1
    refine has_app (fun x hx => ?_) h2
    obtain ⟨k, hk, hx⟩ := mem_flat hx
    have := h1 k (hD.lt k hk)
    simp only [Bool.or_eq_true, beq_iff_eq, Bool.not_eq_true'] at this
    rcases this with (h | h) | h
    · exact absurd (h ▸ hk) hi
    · exact kills_false h x hx
    · exact absurd (hD.pre 2 k i hk h) hi
  | some j =>
    simp only [needOk, Bool.and_eq_true, List.all_eq_true, List.mem_range] at h1
    obtain ⟨hj, h1⟩ := h1
    obtain ⟨D1, D2, rfl, g1, g2, g3⟩ := hD.split (pre_of hD hr 4 j hj)
    unfold ΓD
    rw [List.flatMap_append, List.flatMap_cons, List.append_assoc, List.append_assoc]
    refine has_app (fun x hx => ?_) (has_right h2)
    obtain ⟨k, hk, hx⟩ := mem_flat hx
    have hkD : k ∈ D1 ++ j :: D2 := by simp [hk]
    have := h1 k (hD.lt k hkD)
    simp only [Bool.or_eq_true, beq_iff_eq, Bool.not_eq_true'] at this
    rcases this with (((h | h) | h) | h) | h
    · exact absurd h (g2 k hk).1
    · exact absurd (h ▸ hkD) hi
    · exact kills_false h x hx
    · exact absurd (pre_of g3 g1 2 k h) (g2 k hk).2
    · exact absurd (hD.pre 2 k i hkD h) hi
theorem fin_has {l : List Oper} {L : List (List Ent)} {Γ0 : List Ent} {D : List Nat} (hD : Down l D) (hall : ∀ k, k < l.length → k ∈ D) (hf : finOk l L = true) (e : Ent) (h : Has [] (ΓD L Γ0 (List.range l.length).reverse) e) : Has [] (ΓD L Γ0 D) e := by
  rcases has_split h with h | ⟨ks, h1, h2, h3⟩
  · have key : ∀ n, n ≤ l.length → ∀ ks, Has ks ((List.range n).reverse.flatMap (fun i => L.getD i [])) e → (∀ k, n ≤ k → k < l.length → kills (L.getD k []) e = false) → ∃ j, j < l.length ∧ Has [] (L.getD j []) e ∧ ∀ k, j < k → k < l.length → kills (L.getD k []) e = false := by
      intro n
      induction n with
      | zero => intro _ ks h _; simp at h; cases h
      | succ n ih =>
        intro hn ks h hk
        rw [List.range_succ, List.reverse_append, List.reverse_singleton, List.singleton_append, List.flatMap_cons] at h
        rcases has_split h with h | ⟨ks', g1, g2, g3⟩
        · exact ⟨n, by omega, h.mono (fun k hk => by cases hk), fun k h4 h5 => hk k h4 h5⟩
        · refine ih (by omega) ks' g1 (fun k h4 h5 => ?_)
          by_cases e' : k = n
          · subst e'
            rw [Bool.eq_false_iff]
            intro hkl
            obtain ⟨x, hx, hx2⟩ := List.any_eq_true.1 hkl
            exact not_dep g1.live (g2 x hx) (by simpa using hx2)
          · exact hk k (by omega) h5
    obtain ⟨j, j1, j2, j3⟩ := key l.length (Nat.le_refl _) [] h (fun k h4 h5 => by omega)
    obtain ⟨D1, D2, rfl, g1, g2, g3⟩ := hD.split (hall j j1)
    unfold ΓD
    rw [List.flatMap_append, List.flatMap_cons, List.append_assoc, List.append_assoc]
    refine has_app (fun x hx => ?_) (has_right j2)
    obtain ⟨k, hk, hx⟩ := mem_flat hx
    have hkl := hD.lt k (by simp [hk])
    rcases Nat.lt_or_ge j k with hlt | hge
    · exact kills_false (j3 k hlt hkl) x hx
    · have hne := (g2 k hk).1
      simp only [finOk, List.all_eq_true, List.mem_range] at hf
      have := hf j j1 k (by omega) e j2.mem
      simp only [Bool.or_eq_true, Bool.not_eq_true'] at this
      rcases this with h | h
      · exact kills_false h x hx
      · exact absurd (g1 k h) (g2 k hk).2
  · refine has_app (fun x hx => ?_) (h1.mono (fun k hk => by cases hk))
    obtain ⟨k, hk, hx⟩ := mem_flat hx
    exact not_dep h1.live (h2 x (List.mem_flatMap.2 ⟨k, by simp [hD.lt k hk], hx⟩))
def nthO : List Oper → Nat → Option Oper
  | [], _ => none
  | o :: _, 0 => some o
  | _ :: l, i + 1 => nthO l i
theorem nthO_spec : ∀ {l : List Oper} {i : Nat} {o : Oper}, nthO l i = some o → l.toArray[i]? = some o
  | [], _, _, h => by cases h
  | o :: l, 0, _, h => by simpa [nthO] using h
  | o :: l, i + 1, _, h => by
    have := nthO_spec (l := l) (i := i) h
    simpa using this
theorem OpSpec.eq {P : Program} {n : Nat} {o : Oper} {N : Ent → Prop} {Δ Δ' : List Ent} (h : OpSpec P n o N Δ) (e : Δ = Δ') : OpSpec P n o N Δ' := e ▸ h
/-- An operation in its region, whether a guard leaves it out or not. -/
def OpRun (P : Program) (n : Nat) (ops : Array Oper) (i : Nat) (N : Ent → Prop) (Δ : List Ent) : Prop :=
  ∀ (c : Ctx) (Γ : List Ent) (a : Act) (w : World) (Q : Exit → Act → World → Prop), c.n = n → (∀ e, N e → Has [] Γ e) → Inv c Γ a w → wpOp P ops Q i (fun a' w' => Inv c (Δ ++ Γ) a' w') a w
theorem OpSpec.run {P : Program} {n : Nat} {l : List Oper} {i : Nat} {N : Ent → Prop} {Δ Δ' : List Ent} {o : Oper} (ho : nthO l i = some o) (hg : o.guard = none) (h : OpSpec P n o N Δ') (e : Δ' = Δ) : OpRun P n l.toArray i N Δ := fun c Γ a w Q hn hN hi => by
  subst e
  have ho := nthO_spec ho
  unfold wpOp
  rw [ho]
  simp only [Region.wanted, hg, if_true]
  exact .inl (h c Γ a w Q hn hN hi)
def wantedBy (a : Act) (ops : Array Oper) (o : Oper) : Bool := Region.wanted o (yielded ops a.tmps)
theorem yields {ops : Array Oper} {a : Act} {j d : Nat} {o : Oper} {b : Bool} (ho : ops[j]? = some o) (hd : o.dst = some d) (h : a.tmps.getD d undef = .bool b) : yielded ops a.tmps j = some b := by
  unfold yielded
  rw [ho]
  simp only [Option.bind_some, hd]
  have hlt : a.tmps[d]? = some (.bool b) := by
    rw [Array.getD_eq_getD_getElem?] at h
    cases hx : a.tmps[d]? with
    | none => rw [hx] at h; cases h
    | some v => rw [hx] at h; simpa using h
  rw [hlt]
/-- A guard that lets the operation be. -/
theorem OpSpec.runG {P : Program} {n : Nat} {l : List Oper} {i j d : Nat} {N : Ent → Prop} {Δ Δ' : List Ent} {o oj : Oper} {b : Bool} (ho : nthO l i = some o) (hg : o.guard = some (j, b)) (hj : nthO l j = some oj) (hd : oj.dst = some d) {b' : Bool} (hb : N (Ent.t d (VA.k kbool b'))) (hbb : b' = b) (h : OpSpec P n o N Δ') (e : Δ' = Δ) : OpRun P n l.toArray i N Δ := fun c Γ a w Q hn hN hi => by
  subst hbb
  subst e
  have ho := nthO_spec ho
  have hj := nthO_spec hj
  have hi' := hi
  obtain ⟨_, _, _, θ, S, _, h5⟩ := hi'
  obtain ⟨_, hv, _⟩ := sat_take (hN _ hb) h5
  have hy := yields (a := a) hj hd (k_bool (θ := θ) (S := S) (w := w) hv)
  unfold wpOp
  rw [ho]
  simp only [Region.wanted, hg, hy, beq_self_eq_true, if_true]
  exact .inl (h c Γ a w Q hn hN hi)
/-- A guard that leaves it out. -/
theorem run_skip {P : Program} {n : Nat} {l : List Oper} {i j d x : Nat} {N : Ent → Prop} {o oj : Oper} {b : Bool} (ho : nthO l i = some o) (hg : o.guard = some (j, b)) (hj : nthO l j = some oj) (hd : oj.dst = some d) (hx : o.dst = some x) (hxn : Nat.blt x n = true) {b' : Bool} (hb : N (Ent.t d (VA.k kbool b'))) (hbb : b' = !b) : OpRun P n l.toArray i N [Ent.t x (VA.v undef)] := fun c Γ a w Q hn hN hi => by
  have ho := nthO_spec ho
  have hj := nthO_spec hj
  subst hbb
  obtain ⟨h1, h2, h3, θ, S, h4, h5⟩ := hi
  obtain ⟨_, hv, _⟩ := sat_take (hN _ hb) h5
  have hy := yields (a := a) hj hd (k_bool (θ := θ) (S := S) (w := w) hv)
  unfold wpOp
  rw [ho]
  have hf : (some (!b) == some b) = false := by cases b <;> rfl
  simp only [Region.wanted, hg, hy, hf, Bool.false_eq_true, if_false, hx]
  subst hn
  exact inv_put (A := VA.v undef) (θ := θ) (S := S) hxn h1 h2 h3 h4 h5 rfl ⟨rfl, rfl⟩
theorem run_skip0 {P : Program} {n : Nat} {l : List Oper} {i j d : Nat} {N : Ent → Prop} {o oj : Oper} {b : Bool} (ho : nthO l i = some o) (hg : o.guard = some (j, b)) (hj : nthO l j = some oj) (hd : oj.dst = some d) (hx : o.dst = none) {b' : Bool} (hb : N (Ent.t d (VA.k kbool b'))) (hbb : b' = !b) : OpRun P n l.toArray i N [] := fun c Γ a w Q hn hN hi => by
  have ho := nthO_spec ho
  have hj := nthO_spec hj
  subst hbb
  have hi' := hi
  obtain ⟨h1, h2, h3, θ, S, h4, h5⟩ := hi'
  obtain ⟨_, hv, _⟩ := sat_take (hN _ hb) h5
  have hy := yields (a := a) hj hd (k_bool (θ := θ) (S := S) (w := w) hv)
  unfold wpOp
  rw [ho]
  have hf : (some (!b) == some b) = false := by cases b <;> rfl
  simp only [Region.wanted, hg, hy, hf, Bool.false_eq_true, if_false, hx]
  exact hi
theorem yields_no {ops : Array Oper} {a : Act} {j d : Nat} {o : Oper} {b : Bool} (ho : ops[j]? = some o) (hd : o.dst = some d) (h : a.tmps.getD d undef = undef) : (yielded ops a.tmps j == some b) = false := by
  unfold yielded
  rw [ho]
  simp only [Option.bind_some, hd]
  cases hx : a.tmps[d]? with
  | none => rfl
  | some v =>
    rw [Array.getD_eq_getD_getElem?, hx] at h
    simp only [Option.getD_some] at h
    rw [h]; rfl
/-- A guard by an operation that was left out itself. -/
theorem run_skipU {P : Program} {n : Nat} {l : List Oper} {i j d x : Nat} {N : Ent → Prop} {o oj : Oper} {b : Bool} (ho : nthO l i = some o) (hg : o.guard = some (j, b)) (hj : nthO l j = some oj) (hd : oj.dst = some d) (hx : o.dst = some x) (hxn : Nat.blt x n = true) (hb : N (Ent.t d (VA.v undef))) : OpRun P n l.toArray i N [Ent.t x (VA.v undef)] := fun c Γ a w Q hn hN hi => by
  have ho := nthO_spec ho
  have hj := nthO_spec hj
  obtain ⟨h1, h2, h3, θ, S, h4, h5⟩ := hi
  obtain ⟨_, ⟨_, hv⟩, _⟩ := sat_take (hN _ hb) h5
  have hy := yields_no (b := b) hj hd hv
  unfold wpOp
  rw [ho]
  simp only [Region.wanted, hg, hy, Bool.false_eq_true, if_false, hx]
  subst hn
  exact inv_put (A := VA.v undef) (θ := θ) (S := S) hxn h1 h2 h3 h4 h5 rfl ⟨rfl, rfl⟩
theorem run_skipU0 {P : Program} {n : Nat} {l : List Oper} {i j d : Nat} {N : Ent → Prop} {o oj : Oper} {b : Bool} (ho : nthO l i = some o) (hg : o.guard = some (j, b)) (hj : nthO l j = some oj) (hd : oj.dst = some d) (hx : o.dst = none) (hb : N (Ent.t d (VA.v undef))) : OpRun P n l.toArray i N [] := fun c Γ a w Q hn hN hi => by
  have ho := nthO_spec ho
  have hj := nthO_spec hj
  have hi' := hi
  obtain ⟨h1, h2, h3, θ, S, h4, h5⟩ := hi'
  obtain ⟨_, ⟨_, hv⟩, _⟩ := sat_take (hN _ hb) h5
  have hy := yields_no (b := b) hj hd hv
  unfold wpOp
  rw [ho]
  simp only [Region.wanted, hg, hy, Bool.false_eq_true, if_false, hx]
  exact hi
/-- The parts that are needed, with their places. -/
def NL (N : List (Option Nat × Ent)) : Ent → Prop := fun e => ∃ p, p ∈ N ∧ p.2 = e
theorem NL.h0 {p : Option Nat × Ent} {N : List (Option Nat × Ent)} : NL (p :: N) p.2 := ⟨p, by simp, rfl⟩
theorem NL.hs {p : Option Nat × Ent} {N : List (Option Nat × Ent)} {e : Ent} (h : NL N e) : NL (p :: N) e := by
  obtain ⟨q, hq, rfl⟩ := h
  exact ⟨q, List.mem_cons_of_mem _ hq, rfl⟩
inductive NeedHas (L : List (List Ent)) (Γ0 : List Ent) : List (Option Nat × Ent) → Prop
  | nil : NeedHas L Γ0 []
  | cons {p : Option Nat × Ent} {N : List (Option Nat × Ent)} : needHas L Γ0 p → NeedHas L Γ0 N → NeedHas L Γ0 (p :: N)
theorem NeedHas.mem {L : List (List Ent)} {Γ0 : List Ent} {N : List (Option Nat × Ent)} (h : NeedHas L Γ0 N) : ∀ p, p ∈ N → needHas L Γ0 p := by
  induction h with
  | nil => exact fun p hp => by cases hp
  | cons h _ ih =>
    intro p hp
    rcases List.mem_cons.1 hp with rfl | hp
    · exact h
    · exact ih p hp
/-- The steps of a region's operations, from number i on. -/
inductive Steps_ (P : Program) (n : Nat) (l : List Oper) (L : List (List Ent)) (Γ0 : List Ent) : Nat → Nat → Prop
  | nil (i : Nat) : Steps_ P n l L Γ0 i 0
  | cons {i m : Nat} (N : List (Option Nat × Ent)) : OpRun P n l.toArray i (NL N) (L.getD i []) → NeedHas L Γ0 N → N.all (needOk l L i) = true → Steps_ P n l L Γ0 (i + 1) m → Steps_ P n l L Γ0 i (m + 1)
theorem Steps_.at {P : Program} {n : Nat} {l : List Oper} {L : List (List Ent)} {Γ0 : List Ent} {i m : Nat} (h : Steps_ P n l L Γ0 i m) : ∀ j, i ≤ j → j < i + m → ∃ N, OpRun P n l.toArray j (NL N) (L.getD j []) ∧ NeedHas L Γ0 N ∧ N.all (needOk l L j) = true := by
  induction h with
  | nil => intro j h1 h2; omega
  | @cons i m N h1 h2 h3 _ ih =>
    intro j hj1 hj2
    by_cases e : j = i
    · subst e; exact ⟨N, h1, h2, h3⟩
    · exact ih j (by omega) (by omega)
theorem nodup_le : ∀ (n : Nat) (D : List Nat), D.Nodup → (∀ k, k ∈ D → k < n) → D.length ≤ n
  | 0, D, _, h => by
    cases D with
    | nil => exact Nat.le_refl _
    | cons x D => exact absurd (h x (by simp)) (by omega)
  | n + 1, D, hd, h => by
    have h1 := nodup_le n (D.erase n) (hd.erase n) (fun k hk => by
      have h2 := (List.Nodup.mem_erase_iff hd).1 hk
      have := h k h2.2
      omega)
    have h3 := List.length_erase (a := n) (l := D)
    split at h3 <;> omega
theorem goes_drawn {P : Program} {c : Ctx} {Γ0 : List Ent} {Q : Exit → Act → World → Prop} {id : Nat} {l : List Oper} (L : List (List Ent)) (hm : P.follows .mixedOrders = true) (he : edgesOk l = true) (hf : finOk l L = true) (hs : Steps_ P c.n l L Γ0 0 l.length)
    (next : Ends c (ΓD L Γ0 (List.range l.length).reverse) Q .normal) : Goes P c Γ0 (.region id l.toArray true) Q := fun a w hi => by
  refine wp_region_any hm ?_
  have hi0 : Inv c Γ0 a { w with drawn := w.drawn + 1 } := by
    obtain ⟨h1, h2, h3, θ, S, h4, h5⟩ := hi
    exact ⟨h1, h2, ⟨h3.os, h3.tape, h3.output, h3.size, h3.block⟩, θ, S, h4, sat_mono (sat_move h5 (fun b hb => rfl) (fun b hb => hb) (fun b hb => rfl) (fun t _ => rfl) (fun k _ => rfl)) (fun k hk => hk) (fun b hb => hb)⟩
  have main : ∀ (fuel : Nat) (D : List Nat) (listed : Array Bool) (a : Act) (w : World), Down l D → listed.size = l.length → (∀ i, i < l.length → (listed.getD i true = true ↔ i ∈ D)) → l.length ≤ fuel + D.length → Inv c (ΓD L Γ0 D) a w → wpAny P .any l.toArray Q fuel listed a w := by
    intro fuel
    have hready : ∀ (D : List Nat) (listed : Array Bool), listed.size = l.length → (∀ i, i < l.length → (listed.getD i true = true ↔ i ∈ D)) → ∀ i, i ∈ Region.ready .any l.toArray listed → i < l.length ∧ i ∉ D ∧ ∀ k, dir l k i = true → k ∈ D := by
      intro D listed hsz hl i hm
      simp only [Region.ready, List.mem_filter, List.mem_range, List.size_toArray, Bool.and_eq_true, Bool.not_eq_true'] at hm
      obtain ⟨h1, h2, h3⟩ := hm
      refine ⟨h1, fun hD => ?_, fun k hk => ?_⟩
      · rw [(hl i h1).2 hD] at h2; cases h2
      · unfold dir at hk
        have ho : l.toArray[i]? = l[i]? := by simp
        rw [ho] at h3
        cases hoi : l[i]? with
        | none => rw [hoi] at hk; cases hk
        | some o =>
          rw [hoi] at hk h3
          simp only [Option.map_some, Option.getD_some] at h3
          obtain ⟨e, he1, he2⟩ := List.any_eq_true.1 hk
          simp only [Bool.and_eq_true, beq_iff_eq] at he2
          have h4 := Array.all_eq_true_iff_forall_mem.1 h3 e (by simpa using he1)
          simp only [he2.2, Bool.not_true, Bool.false_or] at h4
          have hlt : e.on < l.length := by
            have h5 := List.all_eq_true.1 he i (by simpa using h1)
            rw [hoi] at h5
            have h6 := List.all_eq_true.1 h5 e he1
            simp only [he2.2, Bool.not_true, Bool.false_or] at h6
            have := blt_lt h6; omega
          rw [← he2.1]
          refine (hl _ hlt).1 ?_
          rw [Array.getD_eq_getD_getElem?] at h4 ⊢
          rw [Array.getElem?_eq_getElem (by omega)] at h4 ⊢
          exact h4
    have hend : ∀ (D : List Nat) (listed : Array Bool), Down l D → listed.size = l.length → (∀ i, i < l.length → (listed.getD i true = true ↔ i ∈ D)) → Region.ready .any l.toArray listed = [] → ∀ k, k < l.length → k ∈ D := by
      intro D listed hD hsz hl hr k
      induction k using Nat.strongRecOn with
      | _ k ih =>
        intro hk
        by_cases hkD : k ∈ D
        · exact hkD
        · exfalso
          have hmem : k ∈ Region.ready .any l.toArray listed := by
            simp only [Region.ready, List.mem_filter, List.mem_range, List.size_toArray, Bool.and_eq_true, Bool.not_eq_true']
            refine ⟨hk, ?_, ?_⟩
            · rw [Bool.eq_false_iff]; exact fun h => hkD ((hl k hk).1 h)
            · have ho : l.toArray[k]? = l[k]? := by simp
              rw [ho, List.getElem?_eq_getElem hk]
              simp only [Option.map_some, Option.getD_some]
              refine Array.all_eq_true_iff_forall_mem.2 (fun e he1 => ?_)
              cases hb : Region.binds .any e with
              | false => rfl
              | true =>
                simp only [Bool.not_true, Bool.false_or]
                have h5 := List.all_eq_true.1 he k (by simpa using hk)
                rw [List.getElem?_eq_getElem hk] at h5
                have h6 := List.all_eq_true.1 h5 e (by simpa using he1)
                simp only [hb, Bool.not_true, Bool.false_or] at h6
                have hlt := blt_lt h6
                have := (hl e.on (by omega)).2 (ih e.on hlt (by omega))
                rw [Array.getD_eq_getD_getElem?] at this ⊢
                rw [Array.getElem?_eq_getElem (by omega)] at this ⊢
                exact this
          rw [hr] at hmem
          cases hmem
    have hq : ∀ (D : List Nat) (listed : Array Bool) (a : Act) (w : World), Down l D → listed.size = l.length → (∀ i, i < l.length → (listed.getD i true = true ↔ i ∈ D)) → Inv c (ΓD L Γ0 D) a w → Region.ready .any l.toArray listed = [] → Q .normal a w := fun D listed a w hD hsz hl hinv hr =>
      next a w (hinv.sub (fin_has hD (hend D listed hD hsz hl hr) hf))
    induction fuel with
    | zero =>
      intro D listed a w hD hsz hl hlen hinv
      have hr : Region.ready .any l.toArray listed = [] := by
        refine List.eq_nil_iff_forall_not_mem.2 (fun i hi => ?_)
        obtain ⟨h1, h2, h3⟩ := hready D listed hsz hl i hi
        have hD' : Down l (i :: D) := ⟨h3, h2, h1, hD⟩
        have hnd : ∀ {D : List Nat}, Down l D → D.Nodup := by
          intro D
          induction D with
          | nil => intro _; exact List.nodup_nil
          | cons x D ih => intro h; exact List.nodup_cons.2 ⟨h.2.1, ih h.2.2.2⟩
        have hsub := nodup_le l.length (i :: D) (hnd hD') (fun x hx => hD'.lt x hx)
        simp at hsub
        omega
      exact ⟨hr, hq D listed a w hD hsz hl hinv hr⟩
    | succ fuel ih =>
      intro D listed a w hD hsz hl hlen hinv
      refine ⟨hq D listed a w hD hsz hl hinv, fun i hi => ?_⟩
      obtain ⟨h1, h2, h3⟩ := hready D listed hsz hl i hi
      obtain ⟨N, n1, n2, n3⟩ := hs.at i (Nat.zero_le _) (by omega)
      have hrun := n1 c (ΓD L Γ0 D) a w Q rfl (fun e he => by
        obtain ⟨p, hp, rfl⟩ := he
        exact need_has hD h2 h3 (List.all_eq_true.1 n3 p hp) (n2.mem p hp)) hinv
      refine wpOp_mono (fun a' w' h' => ?_) hrun
      refine ih (i :: D) (listed.setIfInBounds i true) a' w' ⟨h3, h2, h1, hD⟩ (by simp [hsz]) (fun k hk => ?_) (by simp; omega) (by unfold ΓD at h' ⊢; rw [List.flatMap_cons, List.append_assoc]; exact h')
      rw [Array.getD_eq_getD_getElem?, Array.getElem?_setIfInBounds]
      by_cases e : i = k
      · subst e
        rw [if_pos rfl, if_pos (by omega)]
        simp
      · rw [if_neg e, ← Array.getD_eq_getD_getElem?, hl k hk, List.mem_cons]
        exact ⟨fun h => .inr h, fun h => h.resolve_left (fun e' => e e'.symm)⟩
  exact main l.length [] (Array.replicate l.length false) a _ trivial (by simp) (fun i hi => by simp [hi]) (by simp) hi0
end Go.Proofs.Ytedgkcdofiildaa.Sl
