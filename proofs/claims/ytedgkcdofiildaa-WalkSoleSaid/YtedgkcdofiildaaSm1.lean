import Derived.Test.YtedgkcdofiildaaSm0
import Derived.Laws.MakeOwn
import Derived.Maps.OwnSet
import Derived.StringKeys
/- Entering a function, leaving it; cuts; loops. -/
set_option linter.unusedVariables false
set_option linter.unusedSimpArgs false
namespace Go.Proofs.Ytedgkcdofiildaa.Sl
open Go Go.RowKit
def argEnts : List VA → Nat → List Ent
  | [], _ => []
  | A :: As, j => Ent.t j A :: argEnts As (j + 1)
theorem argSat_len {θ : Nat → Nat} {S : Blk} {w : World} : ∀ {As : List VA} {vs : List Value}, argSat θ S w As vs → vs.length = As.length
  | [], [], _ => rfl
  | _ :: _, _ :: _, h => by simp [argSat_len h.2]
  | [], _ :: _, h => h.elim
  | _ :: _, [], h => h.elim
theorem arg_sat {θ : Nat → Nat} {S : Blk} {a : Act} {w : World} : ∀ {As : List VA} {vs : List Value} {j : Nat} {ks : List Nat} {av : Blk}, argSat θ S w As vs → (∀ i v, vs[i]? = some v → a.tmps.getD (j + i) undef = v) → (∀ k, k ∈ ks → k < j) → j + As.length ≤ 1000000 → sat θ S a w ks (argEnts As j) av
  | [], [], _, _, _, _, _, _, _ => trivial
  | A :: As, v :: vs, j, ks, av, h, hv, hk, hj => by
    simp only [List.length_cons] at hj
    refine sat_consK (dead_iff (fun k hk' => ?_)) ?_ (arg_sat h.2 (fun i v hi => by have := hv (i + 1) v hi; rw [← this]; congr 1; omega) (fun k hk' => ?_) (by omega))
    · have := hk k hk'
      simp only [Ent.deps, Ent.t, List.mem_cons, List.mem_append, List.mem_map, List.not_mem_nil, or_false]
      rintro (h | h | ⟨x, _, h⟩) <;> omega
    · show A.sem θ S (bk none) w (a.tmps.getD j undef)
      rw [show a.tmps.getD j undef = v from hv 0 v rfl]; exact h.1
    · rcases List.mem_cons.1 hk' with e | hk'
      · rw [e]; exact Nat.lt_succ_self j
      · have := hk k hk'; omega
/-- What a call has come to. -/
def CPost (w0 : World) (S0 : Blk) (θ : Nat → Nat) (res : List VA) (e : Ending) (w' : World) : Prop :=
  ∃ (rs : List Value) (S' : Blk), e = .returned (tup rs) ∧ Fr [] w0 w' ∧ (∀ b, S' b → since w0 w' b) ∧ resSat θ (fun b => S0 b ∨ S' b) w' res rs (fun b => since w0 w' b ∧ ¬ S' b)
theorem con_enter {P : Program} {f : FuncId} {fn : Func} {body : Code} {As res : List VA} (hf : P.funcs[f]? = some fn) (hb : fn.body = some body) (hn : Nat.ble As.length fn.ntmps = true) (hm : Nat.ble fn.ntmps 1000000 = true)
    (h : ∀ w0 S0 θ, Goes P (ctx w0 S0 [] fn.ntmps) (argEnts As 0) body (bodyPost P fn (CPost w0 S0 θ res))) : Con P f As res := fun θ S w vs hS ha => by
  refine calls_of_wp hf hb (wpIn_wide.1 (h w S θ _ w ?_))
  have hl := argSat_len ha
  have hn' := Nat.le_of_ble_eq_true hn
  have hm' := Nat.le_of_ble_eq_true hm
  refine ⟨rfl, ⟨by simp [hl]; omega, hm'⟩, Fr.refl _ _, θ, S, fun b hb => ⟨hS b hb, .inl hb⟩, arg_sat ha (fun i v hi => ?_) (fun k hk => by cases hk) (by omega)⟩
  have hlt := (List.getElem?_eq_some_iff.1 hi).1
  simp only [Array.getD_eq_getD_getElem?, Nat.zero_add]
  rw [Array.getElem?_append_left (by simpa using hlt)]
  simp [hi]
/-- How a result is had out of what is known. -/
def RGet (P : Program) (Γ : List Ent) (ks : List Nat) (key : Nat) (rv : ResultVar) (A : VA) : Prop :=
  ∀ (F : ResultVar → Sem Value) (θ : Nat → Nat) (S : Blk) (a : Act) (w : World) (av0 av : Blk), (∀ t, F (.tmp t) = pure (a.tmps.getD t undef)) → (∀ r t ad, a.tmps.getD r undef = .pointer (some ad) → (F (.cell r t)).run P w = (loadVar t ad).run P w) →
    sat θ S a w [] Γ av0 → sat θ S a w ks Γ av → ∃ v ob, (F rv).run P w = .ok v w ∧ A.sem θ S ob w v ∧ (∀ b, ob b → av b) ∧ sat θ S a w (key :: ks) Γ (fun b => av b ∧ ¬ ob b)
inductive Rets (P : Program) (Γ : List Ent) : List Nat → List ResultVar → List VA → Prop
  | nil (ks : List Nat) : Rets P Γ ks [] []
  | g {ks : List Nat} {key : Nat} {rv : ResultVar} {rs : List ResultVar} {A : VA} {As : List VA} : RGet P Γ ks key rv A → Rets P Γ (key :: ks) rs As → Rets P Γ ks (rv :: rs) (A :: As)
theorem Rets.t {P : Program} {Γ : List Ent} {ks : List Nat} {r : Nat} {rs : List ResultVar} {A : VA} {As : List VA} (h1 : findE ks Γ r = some (Ent.t r A)) (h : Rets P Γ (r :: ks) rs As) : Rets P Γ ks (.tmp r :: rs) (A :: As) := .g (fun F θ S a w av0 av hF hG h0 hs => by
  obtain ⟨ob, g1, g2, g3⟩ := sat_take (has_find h1) hs
  exact ⟨a.tmps.getD r undef, ob, by rw [hF, Sem.run_pure], g1, g2, g3⟩) h
theorem Rets.c {P : Program} {Γ : List Ent} {α : Type} {ks : List Nat} {r id : Nat} {t e : TypeId} {K : Kn α} {x : α} {rs : List ResultVar} {As : List VA} (h1 : findE [] Γ r = some (Ent.t r (VA.ptr id 0))) (h2 : findE [] Γ (2000000 + id) = some (Ent.h id (HE.box e K x))) (hk : TK P t K) (h : Rets P Γ (3999999 :: ks) rs As) : Rets P Γ ks (.cell r t :: rs) (VA.k K x :: As) := .g (fun F θ S a w av0 av hF hG h0 hs => by
  obtain ⟨_, ⟨_, e1⟩, _⟩ := sat_take (has_find h1) h0
  obtain ⟨_, ⟨_, cs, hc, hr⟩, _⟩ := sat_take (has_find h2) h0
  have hl := run_loadVar_at (w := w) (ad := ⟨θ id, 0, none⟩) hk (K.len hr) (fun i u hu => by
    rw [add_add, cell_of_row w (θ id) _ cs _ (0, 0) hc, Nat.zero_add]
    simpa using hu)
  exact ⟨K.mk_ cs.toList, bk none, by rw [hG r t _ e1, hl], ⟨rfl, _, hr, rfl⟩, fun b hb => (by cases hb), sat_mono hs (fun k hk => List.mem_cons_of_mem _ hk) (fun b hb => ⟨hb, by simp⟩)⟩) h
theorem Rets.sat {P : Program} {Γ : List Ent} {θ : Nat → Nat} {S : Blk} {a : Act} {w : World} {av0 : Blk} (F : ResultVar → Sem Value) (hF : ∀ t, F (.tmp t) = pure (a.tmps.getD t undef)) (hG : ∀ r t ad, a.tmps.getD r undef = .pointer (some ad) → (F (.cell r t)).run P w = (loadVar t ad).run P w) (h0 : sat θ S a w [] Γ av0) {ks : List Nat} {rts : List ResultVar} {res : List VA} (h : Rets P Γ ks rts res) :
    ∀ {av : Blk}, sat θ S a w ks Γ av → ∃ vs, (List.mapM F rts).run P w = .ok vs w ∧ resSat θ S w res vs av := by
  induction h with
  | nil ks => exact fun _ => ⟨[], rfl, trivial⟩
  | @g ks key rv rs A As h1 _ ih =>
    intro av hs
    obtain ⟨v, ob, e1, g1, g2, g3⟩ := h1 F θ S a w av0 av hF hG h0 hs
    obtain ⟨vs, e, hr⟩ := ih g3
    refine ⟨v :: vs, ?_, ob, g1, g2, hr⟩
    rw [List.mapM_cons, Sem.run_bind, e1, Result.andThen_ok, Sem.run_bind, e, Result.andThen_ok, Sem.run_pure]
theorem resSat_θ {θ θ' : Nat → Nat} {S : Blk} {w : World} : ∀ {As : List VA} {vs : List Value} {av : Blk}, (∀ A, A ∈ As → A.ids = []) → resSat θ S w As vs av → resSat θ' S w As vs av
  | [], [], _, _, _ => trivial
  | A :: As, v :: vs, av, hi, h => by
    obtain ⟨ob, h1, h2, h3⟩ := h
    exact ⟨ob, A.move h1 (Agree.refl _ _) (fun b hb => hb) (fun b _ => rfl) (fun k hk => by rw [hi A (by simp)] at hk; cases hk), h2, resSat_θ (fun A hA => hi A (List.mem_cons_of_mem _ hA)) h3⟩
  | [], _ :: _, _, _, h => h.elim
  | _ :: _, [], _, _, h => h.elim
section
variable {P : Program} {n : Nat} {w0 : World} {S0 : Blk} {θ : Nat → Nat} {Γ : List Ent} {fn : Func} {res : List VA}
theorem ends_ret (rts : List ResultVar) (hr : fn.results.toList = rts) (hids : ∀ A, A ∈ res → A.ids = []) (h : Rets P Γ [] rts res) : Ends (ctx w0 S0 [] n) Γ (bodyPost P fn (CPost w0 S0 θ res)) .ret := by
  rintro a w ⟨h1, h2, h3, θ', S, h4, h5⟩
  have hres : ∃ vs, (results fn a.tmps).run P w = .ok (tup vs) w ∧ resSat θ' S w res vs (free (ctx w0 S0 [] n) S w) := by
    unfold results
    rw [show fn.results = rts.toArray by rw [← hr], List.mapM_toArray]
    simp only [Sem.run_bind, Sem.run_map]
    obtain ⟨vs, e, hrs⟩ := Rets.sat (P := P) (a := a) (w := w) (fun x : ResultVar => match x with | .tmp t => (pure (a.tmps.getD t undef) : Sem Value) | .cell b t => do loadVar t (← asAddr (a.tmps.getD b undef))) (fun _ => rfl) (fun r t ad h => by simp only [h, asAddr, Sem.run_bind, Sem.run_pure, Result.andThen_ok]) h5 h h5
    refine ⟨vs, ?_, hrs⟩
    have e' := e
    refine Eq.trans (congrArg (fun z : Result (List Value) => ((z.andThen fun v w => .ok v.toArray w).andThen fun a' w' => (pure (if h : a'.size = 1 then a'[0] else Value.tuple a') : Sem Value).run P w')) e') ?_
    simp only [Result.andThen_ok, Sem.run_pure]
    congr 1
    match vs with
    | [] => rfl
    | [r] => rfl
    | r :: r' :: l => simp [tup]
  obtain ⟨vs, hrun, hrs⟩ := hres
  refine ⟨h1, _, hrun, _, (fun b => S b ∧ since w0 w b), rfl, h3, fun b hb => hb.2, ?_⟩
  refine resSat_θ hids (resSat_move (fun b hb => ?_) (fun b hb => ?_) hrs)
  · have := h4 b hb
    rcases this.2 with h | h | h
    · exact .inl h
    · exact .inr ⟨hb, h, this.1⟩
    · cases h
  · obtain ⟨f1, f2, f3⟩ := hb
    refine ⟨⟨?_, f2⟩, fun h => f1 h.1⟩
    rcases f3 with h | h
    · exact h
    · cases h
theorem ends_fall {n : Nat} {R : Ending → World → Prop} {c : Ctx} {Γ : List Ent} {fn : Func} (h : Ends c Γ (bodyPost P fn R) .ret) : Ends c Γ (bodyPost P fn R) .normal := h
end
/-! ### cuts and loops -/
section
variable {P : Program} {c : Ctx} {Γ : List Ent} {Q : Exit → Act → World → Prop}
/-- A piece that comes through. -/
def Cut (c : Ctx) (Γ' : List Ent) : Exit → Act → World → Prop := fun e a w => e = .normal ∧ Inv c Γ' a w
theorem goes_cut {k : Code} (Γ' : List Ent) (hx : Goes P c Γ k (Cut c Γ')) (hn : Ends c Γ' Q .normal) : Goes P c Γ k Q := fun a w hi => wpIn_mono (hx a w hi) (by rintro e a w ⟨rfl, h⟩; exact hn a w h)
theorem ends_cut {Γ' : List Ent} (h : Told Γ Γ') : Ends c Γ (Cut c Γ') .normal := fun a w hi => ⟨rfl, hi.sub h.sub⟩
/-- A piece that comes through or leaves the function. -/
def CutR {ρ σ : Type} (c : Ctx) (Γ' : σ → List Ent) (RP : ρ → Act → World → Prop) (o : Except ρ σ) : Exit → Act → World → Prop
  | .normal, a, w => ∃ s, o = .ok s ∧ Inv c (Γ' s) a w
  | .ret, a, w => ∃ r, o = .error r ∧ RP r a w
  | _, _, _ => False
theorem goes_cutR {ρ σ : Type} {k : Code} {o : Except ρ σ} (Γ' : σ → List Ent) (RP : ρ → Act → World → Prop) (hx : Goes P c Γ k (CutR c Γ' RP o)) (hn : ∀ s, o = .ok s → Ends c (Γ' s) Q .normal) (hr : ∀ r, o = .error r → ∀ a w, RP r a w → Q .ret a w) : Goes P c Γ k Q := fun a w hi => wpIn_mono (hx a w hi) (by
  intro e a w h
  cases e with
  | normal => obtain ⟨s, e, h⟩ := h; exact hn s e a w h
  | ret => obtain ⟨r, e, h⟩ := h; exact hr r e a w h
  | exit id => exact h.elim
  | goto l => exact h.elim
  | panic ch => exact h.elim
  | outgrown => exact h.elim)
theorem ends_cutR {ρ σ : Type} {Γ' : σ → List Ent} {RP : ρ → Act → World → Prop} {o : Except ρ σ} {s : σ} (ho : o = .ok s) (h : Told Γ (Γ' s)) : Ends c Γ (CutR c Γ' RP o) .normal := fun a w hi => ⟨s, ho, hi.sub h.sub⟩
theorem ends_cutR_ret {ρ σ : Type} {Γ' : σ → List Ent} {RP : ρ → Act → World → Prop} {o : Except ρ σ} {r : ρ} (ho : o = .error r) (h : ∀ a w, Inv c Γ a w → RP r a w) : Ends c Γ (CutR c Γ' RP o) .ret := fun a w hi => ⟨r, ho, h a w hi⟩
theorem least (p : Nat → Prop) (h : ∃ n, p n) : ∃ n, p n ∧ ∀ m, p m → n ≤ m := by
  obtain ⟨n, hn⟩ := h
  induction n using Nat.strongRecOn with
  | _ n ih =>
    by_cases hm : ∃ m, m < n ∧ p m
    · obtain ⟨m, h1, h2⟩ := hm
      exact ih m h1 h2
    · exact ⟨n, hn, fun m h => Nat.le_of_not_lt fun hlt => hm ⟨m, hlt, h⟩⟩
/-- A loop: l its rounds; what it comes to is fixed. -/
theorem goes_loop {σ τ : Type} {b : Code} {k0 : Nat} {s0 : σ} {r : τ} (Γ' : σ → List Ent) (l : Nat → σ → Option τ) (hz : ∀ s, l 0 s = none) (H : l k0 s0 = some r) (hs : Told Γ (Γ' s0))
    (body : ∀ k s, l (k + 1) s = some r → Goes P c (Γ' s) b (Exit.then (fun a w => ∃ s', l k s' = some r ∧ Inv c (Γ' s') a w) Q)) : Goes P c Γ (.loop b) Q := fun a w hi => by
  classical
  let good : Nat → Act → World → Prop := fun k a w => ∃ s, l k s = some r ∧ Inv c (Γ' s) a w
  let μ : Act → World → Nat := fun a w => if h : ∃ k, good k a w then Classical.choose (least _ h) else 0
  refine wpIn_loop (fun a w => ∃ k, good k a w) μ ⟨k0, s0, H, hi.sub hs.sub⟩ ?_
  intro a w hI
  have hμ : μ a w = Classical.choose (least _ hI) := dif_pos hI
  obtain ⟨⟨s, hs1, hs2⟩, hmin⟩ := Classical.choose_spec (least _ hI)
  cases hk : Classical.choose (least _ hI) with
  | zero => rw [hk, hz] at hs1; cases hs1
  | succ k =>
    rw [hk] at hs1
    refine wpIn_mono (body k s hs1 a w hs2) (fun e a' w' h => ?_)
    cases e with
    | normal =>
      obtain ⟨s', h1, h2⟩ := h
      have hI' : ∃ k, good k a' w' := ⟨k, s', h1, h2⟩
      refine ⟨hI', ?_⟩
      have : μ a' w' = Classical.choose (least _ hI') := dif_pos hI'
      rw [this, hμ, hk]
      exact Nat.lt_succ_of_le ((Classical.choose_spec (least _ hI')).2 k ⟨s', h1, h2⟩)
    | ret => exact h
    | exit id => exact h
    | goto l => exact h
    | panic ch => exact h
    | outgrown => exact h
theorem loop_next {σ τ : Type} {Γ' : σ → List Ent} {l : Nat → σ → Option τ} {r : τ} {k : Nat} (s' : σ) (H : l k s' = some r) (h : Told Γ (Γ' s')) : Ends c Γ (Exit.then (fun a w => ∃ s', l k s' = some r ∧ Inv c (Γ' s') a w) Q) .normal := fun a w hi => ⟨s', H, hi.sub h.sub⟩
theorem goes_cond {x y : Code} {o : Operand} {b : Bool} (hc : Arg (Has [] Γ) o (VA.k kbool b)) (ht : b = true → Goes P c Γ x Q) (hf : b = false → Goes P c Γ y Q) : Goes P c Γ (.cond o x y) Q := fun a w hi => by
  obtain ⟨h1, h2, h3, θ, S, h4, h5⟩ := hi
  obtain ⟨_, hb⟩ := hc θ S a w (sems (fun _ h => h) h5)
  exact wpIn_cond_split (k_bool hb) (fun e => ht e a w ⟨h1, h2, h3, θ, S, h4, h5⟩) (fun e => hf e a w ⟨h1, h2, h3, θ, S, h4, h5⟩)
end
end Go.Proofs.Ytedgkcdofiildaa.Sl
/- A region that draws its order: what each operation adds, whichever comes first. -/
set_option linter.unusedVariables false
set_option linter.unusedSimpArgs false
namespace Go.Proofs.Ytedgkcdofiildaa.Sl
open Go Go.RowKit
theorem has_app {e : Ent} {Γ : List Ent} : ∀ {L : List Ent} {ks : List Nat}, (∀ x, x ∈ L → ¬ x.key ∈ e.deps) → Has ks Γ e → Has ks (L ++ Γ) e
  | [], _, _, h => h
  | x :: L, ks, hL, h => .there (has_app (fun y hy => hL y (List.mem_cons_of_mem _ hy)) (h.kill (hL x (by simp))))
theorem has_right {e : Ent} {ks : List Nat} {L Γ : List Ent} (h : Has ks L e) : Has ks (L ++ Γ) e := by
  induction h with
  | here h => exact .here h
  | there _ ih => exact .there ih
theorem has_split {e : Ent} {Γ : List Ent} : ∀ {L : List Ent} {ks : List Nat}, Has ks (L ++ Γ) e → Has ks L e ∨ ∃ ks', Has ks' Γ e ∧ (∀ x, x ∈ L → x.key ∈ ks') ∧ ∀ k, k ∈ ks → k ∈ ks'
  | [], ks, h => .inr ⟨ks, h, fun x hx => by simp at hx, fun k hk => hk⟩
  | x :: L, ks, h => by
    cases h with
    | here h => exact .inl (.here h)
    | there h =>
      rcases has_split h with h | ⟨ks', h1, h2, h3⟩
      · exact .inl (.there h)
      · refine .inr ⟨ks', h1, fun y hy => ?_, fun k hk => h3 k (List.mem_cons_of_mem _ hk)⟩
        rcases List.mem_cons.1 hy with rfl | hy
        · exact h3 _ List.mem_cons_self
        · exact h2 y hy
/-- Something in L hides e. -/
def kills (L : List Ent) (e : Ent) : Bool := L.any fun x => e.deps.elem x.key
theorem kills_false {L : List Ent} {e : Ent} (h : kills L e = false) : ∀ x, x ∈ L → ¬ x.key ∈ e.deps := fun x hx hm => by
  have : kills L e = true := List.any_eq_true.2 ⟨x, hx, by simpa using hm⟩
  rw [h] at this; cases this
/-- Operation k stands ahead of operation j by an edge of its own. -/
def dir (l : List Oper) (k j : Nat) : Bool := match l[j]? with | some o => o.after.toList.any fun e => e.on == k && Region.binds .any e | none => false
/-- Operation k stands ahead of operation j by a chain of edges. -/
def pre (l : List Oper) : Nat → Nat → Nat → Bool
  | 0, k, j => dir l k j
  | n + 1, k, j => dir l k j || (List.range l.length).any fun m => dir l m j && pre l n k m
/-- What operation i needs: out of the parts that operation j adds, or (none) of what was known. -/
def needOk (l : List Oper) (L : List (List Ent)) (i : Nat) : Option Nat × Ent → Bool
  | (some j, e) => pre l 4 j i && (List.range l.length).all fun k => k == j || k == i || !kills (L.getD k []) e || pre l 2 k j || pre l 2 i k
  | (none, e) => (List.range l.length).all fun k => k == i || !kills (L.getD k []) e || pre l 2 i k
def needHas (L : List (List Ent)) (Γ0 : List Ent) : Option Nat × Ent → Prop
  | (some j, e) => Has [] (L.getD j []) e
  | (none, e) => Has [] Γ0 e
def finOk (l : List Oper) (L : List (List Ent)) : Bool :=
  (List.range l.length).all fun j => (List.range j).all fun k => (L.getD j []).all fun e => !kills (L.getD k []) e || pre l 2 k j
def edgesOk (l : List Oper) : Bool := (List.range l.length).all fun i => match l[i]? with | some o => o.after.toList.all fun e => !Region.binds .any e || Nat.blt e.on i | none => true
def ΓD (L : List (List Ent)) (Γ0 : List Ent) (D : List Nat) : List Ent := D.flatMap (fun i => L.getD i []) ++ Γ0
/-- D: what has come up, the last one first. -/
def Down (l : List Oper) : List Nat → Prop
  | [] => True
  | i :: D => (∀ k, dir l k i = true → k ∈ D) ∧ i ∉ D ∧ i < l.length ∧ Down l D
theorem Down.split {l : List Oper} {j : Nat} : ∀ {D : List Nat}, Down l D → j ∈ D → ∃ D1 D2, D = D1 ++ j :: D2 ∧ (∀ k, dir l k j = true → k ∈ D2) ∧ (∀ k, k ∈ D1 → k ≠ j ∧ k ∉ D2) ∧ Down l D2
  | i :: D, h, hj => by
    obtain ⟨h1, h2, h3, h4⟩ := h
    by_cases e : j = i
    · subst e
      exact ⟨[], D, rfl, h1, (fun k hk => by simp at hk), h4⟩
    · have hj' : j ∈ D := by
        rcases List.mem_cons.1 hj with h | h
        · exact absurd h e
        · exact h
      obtain ⟨D1, D2, rfl, g1, g2, g3⟩ := Down.split h4 hj'
      refine ⟨i :: D1, D2, rfl, g1, (fun k hk => ?_), g3⟩
      rcases List.mem_cons.1 hk with rfl | hk
      · exact ⟨fun e' => e e'.symm, fun hm => h2 (by simp [hm])⟩
      · exact g2 k hk
theorem Down.lt {l : List Oper} : ∀ {D : List Nat}, Down l D → ∀ k, k ∈ D → k < l.length
  | i :: D, h, k, hk => by
    rcases List.mem_cons.1 hk with rfl | hk
    · exact h.2.2.1
    · exact Down.lt h.2.2.2 k hk
theorem Down.dir {l : List Oper} : ∀ {D : List Nat}, Down l D → ∀ i k, i ∈ D → dir l k i = true → k ∈ D
  | x :: D, h, i, k, hi, hd => by
    rcases List.mem_cons.1 hi with rfl | hi
    · exact List.mem_cons_of_mem _ (h.1 k hd)
    · exact List.mem_cons_of_mem _ (Down.dir h.2.2.2 i k hi hd)
theorem Down.pre {l : List Oper} {D : List Nat} (h : Down l D) : ∀ n i k, i ∈ D → pre l n k i = true → k ∈ D
  | 0, i, k, hi, hp => h.dir i k hi hp
  | n + 1, i, k, hi, hp => by
    simp only [Sl.pre, Bool.or_eq_true, List.any_eq_true, Bool.and_eq_true] at hp
    rcases hp with hp | ⟨m, _, h1, h2⟩
    · exact h.dir i k hi hp
    · exact Down.pre h n m k (h.dir i m hi h1) h2
theorem pre_of {l : List Oper} {D : List Nat} (h : Down l D) {i : Nat} (hr : ∀ k, Sl.dir l k i = true → k ∈ D) : ∀ n k, pre l n k i = true → k ∈ D
  | 0, k, hp => hr k hp
  | n + 1, k, hp => by
    simp only [Sl.pre, Bool.or_eq_true, List.any_eq_true, Bool.and_eq_true] at hp
    rcases hp with hp | ⟨m, _, h1, h2⟩
    · exact hr k hp
    · exact h.pre n m k (hr m h1) h2
theorem mem_flat {L : List (List Ent)} {D : List Nat} {x : Ent} (h : x ∈ D.flatMap (fun i => L.getD i [])) : ∃ k, k ∈ D ∧ x ∈ L.getD k [] := List.mem_flatMap.1 h
theorem need_has {l : List Oper} {L : List (List Ent)} {Γ0 : List Ent} {D : List Nat} {i : Nat} {p : Option Nat × Ent} (hD : Down l D) (hi : i ∉ D) (hr : ∀ k, dir l k i = true → k ∈ D) (h1 : needOk l L i p = true) (h2 : needHas L Γ0 p) : Has [] (ΓD L Γ0 D) p.2 := by
  obtain ⟨src, e⟩ := p
  cases src with
  | none =>
    simp only [needOk, List.all_eq_true, List.mem_range] at h1
    refine has_app (fun x hx => ?_) h2
    obtain ⟨k, hk, hx⟩ := mem_flat hx
    have := h1 k (hD.lt k hk)
    simp only [Bool.or_eq_true, beq_iff_eq, Bool.not_eq_true'] at this
    rcases this with (h | h) | h
    · exact absurd (h ▸ hk) hi
    · exact kills_false h x hx
    · exact absurd (hD.pre 2 k i hk h) hi
  | some j =>
    simp only [needOk, Bool.and_eq_true, List.all_eq_true, List.mem_range] at h1
    obtain ⟨hj, h1⟩ := h1
    obtain ⟨D1, D2, rfl, g1, g2, g3⟩ := hD.split (pre_of hD hr 4 j hj)
    unfold ΓD
    rw [List.flatMap_append, List.flatMap_cons, List.append_assoc, List.append_assoc]
    refine has_app (fun x hx => ?_) (has_right h2)
    obtain ⟨k, hk, hx⟩ := mem_flat hx
    have hkD : k ∈ D1 ++ j :: D2 := by simp [hk]
    have := h1 k (hD.lt k hkD)
    simp only [Bool.or_eq_true, beq_iff_eq, Bool.not_eq_true'] at this
    rcases this with (((h | h) | h) | h) | h
    · exact absurd h (g2 k hk).1
    · exact absurd (h ▸ hkD) hi
    · exact kills_false h x hx
    · exact absurd (pre_of g3 g1 2 k h) (g2 k hk).2
    · exact absurd (hD.pre 2 k i hkD h) hi
theorem fin_has {l : List Oper} {L : List (List Ent)} {Γ0 : List Ent} {D : List Nat} (hD : Down l D) (hall : ∀ k, k < l.length → k ∈ D) (hf : finOk l L = true) (e : Ent) (h : Has [] (ΓD L Γ0 (List.range l.length).reverse) e) : Has [] (ΓD L Γ0 D) e := by
  rcases has_split h with h | ⟨ks, h1, h2, h3⟩
  · have key : ∀ n, n ≤ l.length → ∀ ks, Has ks ((List.range n).reverse.flatMap (fun i => L.getD i [])) e → (∀ k, n ≤ k → k < l.length → kills (L.getD k []) e = false) → ∃ j, j < l.length ∧ Has [] (L.getD j []) e ∧ ∀ k, j < k → k < l.length → kills (L.getD k []) e = false := by
      intro n
      induction n with
      | zero => intro _ ks h _; simp at h; cases h
      | succ n ih =>
        intro hn ks h hk
        rw [List.range_succ, List.reverse_append, List.reverse_singleton, List.singleton_append, List.flatMap_cons] at h
        rcases has_split h with h | ⟨ks', g1, g2, g3⟩
        · exact ⟨n, by omega, h.mono (fun k hk => by cases hk), fun k h4 h5 => hk k h4 h5⟩
        · refine ih (by omega) ks' g1 (fun k h4 h5 => ?_)
          by_cases e' : k = n
          · subst e'
            rw [Bool.eq_false_iff]
            intro hkl
            obtain ⟨x, hx, hx2⟩ := List.any_eq_true.1 hkl
            exact not_dep g1.live (g2 x hx) (by simpa using hx2)
          · exact hk k (by omega) h5
    obtain ⟨j, j1, j2, j3⟩ := key l.length (Nat.le_refl _) [] h (fun k h4 h5 => by omega)
    obtain ⟨D1, D2, rfl, g1, g2, g3⟩ := hD.split (hall j j1)
    unfold ΓD
    rw [List.flatMap_append, List.flatMap_cons, List.append_assoc, List.append_assoc]
    refine has_app (fun x hx => ?_) (has_right j2)
    obtain ⟨k, hk, hx⟩ := mem_flat hx
    have hkl := hD.lt k (by simp [hk])
    rcases Nat.lt_or_ge j k with hlt | hge
    · exact kills_false (j3 k hlt hkl) x hx
    · have hne := (g2 k hk).1
      simp only [finOk, List.all_eq_true, List.mem_range] at hf
      have := hf j j1 k (by omega) e j2.mem
      simp only [Bool.or_eq_true, Bool.not_eq_true'] at this
      rcases this with h | h
      · exact kills_false h x hx
      · exact absurd (pre_of g3 g1 2 k h) (g2 k hk).2
  · refine has_app (fun x hx => ?_) (h1.mono (fun k hk => by cases hk))
    obtain ⟨k, hk, hx⟩ := mem_flat hx
    exact not_dep h1.live (h2 x (List.mem_flatMap.2 ⟨k, by simp [hD.lt k hk], hx⟩))
def nthO : List Oper → Nat → Option Oper
  | [], _ => none
  | o :: _, 0 => some o
  | _ :: l, i + 1 => nthO l i
theorem nthO_spec : ∀ {l : List Oper} {i : Nat} {o : Oper}, nthO l i = some o → l.toArray[i]? = some o
  | [], _, _, h => by cases h
  | o :: l, 0, _, h => by simpa [nthO] using h
  | o :: l, i + 1, _, h => by
    have := nthO_spec (l := l) (i := i) h
    simpa using this
/-- An operation in its region, whether a guard leaves it out or not. -/
def OpRun (P : Program) (n : Nat) (ops : Array Oper) (i : Nat) (N : Ent → Prop) (Δ : List Ent) : Prop :=
  ∀ (c : Ctx) (Γ : List Ent) (a : Act) (w : World) (Q : Exit → Act → World → Prop), c.n = n → (∀ e, N e → Has [] Γ e) → Inv c Γ a w → wpOpIn (rf c.rd) 0 P ops Q i (fun a' w' => Inv c (Δ ++ Γ) a' w') a w
theorem OpSpec.run {P : Program} {n : Nat} {l : List Oper} {i : Nat} {N : Ent → Prop} {Δ Δ' : List Ent} {o : Oper} (ho : nthO l i = some o) (hg : slq o = true) (h : OpSpec P n o N Δ') (e : Δ' = Δ) : OpRun P n l.toArray i N Δ := fun c Γ a w Q hn hN hi => by
  subst e
  have ho := nthO_spec ho
  obtain ⟨hg, hnd⟩ := quiet_spec hg
  unfold wpOpIn
  rw [ho]
  simp only [Region.wanted, hg, if_true]
  exact wp_in hnd (h c Γ a w Q hn hN hi)
theorem yields {ops : Array Oper} {a : Act} {j d : Nat} {o : Oper} {b : Bool} (ho : ops[j]? = some o) (hd : o.dst = some d) (h : a.tmps.getD d undef = .bool b) : yielded ops a.tmps j = some b := by
  unfold yielded
  rw [ho]
  simp only [Option.bind_some, hd]
  have hlt : a.tmps[d]? = some (.bool b) := by
    rw [Array.getD_eq_getD_getElem?] at h
    cases hx : a.tmps[d]? with
    | none => rw [hx] at h; cases h
    | some v => rw [hx] at h; simpa using h
  rw [hlt]
/-- A guard that lets the operation be. -/
theorem OpSpec.runG {P : Program} {n : Nat} {l : List Oper} {i j d : Nat} {N : Ent → Prop} {Δ Δ' : List Ent} {o oj : Oper} {b : Bool} (ho : nthO l i = some o) (hg : slg o = some (j, b)) (hj : nthO l j = some oj) (hd : oj.dst = some d) {b' : Bool} (hb : N (Ent.t d (VA.k kbool b'))) (hbb : b' = b) (h : OpSpec P n o N Δ') (e : Δ' = Δ) : OpRun P n l.toArray i N Δ := fun c Γ a w Q hn hN hi => by
  subst hbb
  subst e
  have ho := nthO_spec ho
  have hj := nthO_spec hj
  have hi' := hi
  obtain ⟨_, _, _, θ, S, _, h5⟩ := hi'
  obtain ⟨_, hv, _⟩ := sat_take (hN _ hb) h5
  have hy := yields (a := a) hj hd (k_bool (θ := θ) (S := S) (w := w) hv)
  obtain ⟨hg, hnd⟩ := gd_spec hg
  unfold wpOpIn
  rw [ho]
  simp only [Region.wanted, hg, hy, beq_self_eq_true, if_true]
  exact wp_in hnd (h c Γ a w Q hn hN hi)
/-- A guard that leaves it out. -/
theorem run_skip {P : Program} {n : Nat} {l : List Oper} {i j d x : Nat} {N : Ent → Prop} {o oj : Oper} {b : Bool} (ho : nthO l i = some o) (hg : slg o = some (j, b)) (hj : nthO l j = some oj) (hd : oj.dst = some d) (hx : o.dst = some x) (hxn : Nat.blt x n = true) {b' : Bool} (hb : N (Ent.t d (VA.k kbool b'))) (hbb : b' = !b) : OpRun P n l.toArray i N [Ent.t x (VA.v undef)] := fun c Γ a w Q hn hN hi => by
  have ho := nthO_spec ho
  have hj := nthO_spec hj
  subst hbb
  obtain ⟨h1, h2, h3, θ, S, h4, h5⟩ := hi
  obtain ⟨_, hv, _⟩ := sat_take (hN _ hb) h5
  have hy := yields (a := a) hj hd (k_bool (θ := θ) (S := S) (w := w) hv)
  obtain ⟨hg, hnd⟩ := gd_spec hg
  unfold wpOpIn
  rw [ho]
  have hf : (some (!b) == some b) = false := by cases b <;> rfl
  simp only [Region.wanted, hg, hy, hf, Bool.false_eq_true, if_false, hx]
  subst hn
  exact ⟨fun _ _ => trivial, inv_put (A := VA.v undef) (θ := θ) (S := S) hxn h1 h2 h3 h4 h5 rfl ⟨rfl, rfl⟩⟩
theorem yields_no {ops : Array Oper} {a : Act} {j d : Nat} {o : Oper} {b : Bool} (ho : ops[j]? = some o) (hd : o.dst = some d) (h : a.tmps.getD d undef = undef) : (yielded ops a.tmps j == some b) = false := by
  unfold yielded
  rw [ho]
  simp only [Option.bind_some, hd]
  cases hx : a.tmps[d]? with
  | none => rfl
  | some v =>
    rw [Array.getD_eq_getD_getElem?, hx] at h
    simp only [Option.getD_some] at h
    rw [h]; rfl
/-- A guard by an operation that was left out itself. -/
theorem run_skipU {P : Program} {n : Nat} {l : List Oper} {i j d x : Nat} {N : Ent → Prop} {o oj : Oper} {b : Bool} (ho : nthO l i = some o) (hg : slg o = some (j, b)) (hj : nthO l j = some oj) (hd : oj.dst = some d) (hx : o.dst = some x) (hxn : Nat.blt x n = true) (hb : N (Ent.t d (VA.v undef))) : OpRun P n l.toArray i N [Ent.t x (VA.v undef)] := fun c Γ a w Q hn hN hi => by
  have ho := nthO_spec ho
  have hj := nthO_spec hj
  obtain ⟨h1, h2, h3, θ, S, h4, h5⟩ := hi
  obtain ⟨_, ⟨_, hv⟩, _⟩ := sat_take (hN _ hb) h5
  have hy := yields_no (b := b) hj hd hv
  obtain ⟨hg, hnd⟩ := gd_spec hg
  unfold wpOpIn
  rw [ho]
  simp only [Region.wanted, hg, hy, Bool.false_eq_true, if_false, hx]
  subst hn
  exact ⟨fun _ _ => trivial, inv_put (A := VA.v undef) (θ := θ) (S := S) hxn h1 h2 h3 h4 h5 rfl ⟨rfl, rfl⟩⟩
/-- The parts that are needed, with their places. -/
def NL (N : List (Option Nat × Ent)) : Ent → Prop := fun e => ∃ p, p ∈ N ∧ p.2 = e
theorem NL.h0 {p : Option Nat × Ent} {N : List (Option Nat × Ent)} : NL (p :: N) p.2 := ⟨p, by simp, rfl⟩
theorem NL.hs {p : Option Nat × Ent} {N : List (Option Nat × Ent)} {e : Ent} (h : NL N e) : NL (p :: N) e := by
  obtain ⟨q, hq, rfl⟩ := h
  exact ⟨q, List.mem_cons_of_mem _ hq, rfl⟩
inductive NeedHas (L : List (List Ent)) (Γ0 : List Ent) : List (Option Nat × Ent) → Prop
  | nil : NeedHas L Γ0 []
  | cons {p : Option Nat × Ent} {N : List (Option Nat × Ent)} : needHas L Γ0 p → NeedHas L Γ0 N → NeedHas L Γ0 (p :: N)
theorem NeedHas.mem {L : List (List Ent)} {Γ0 : List Ent} {N : List (Option Nat × Ent)} (h : NeedHas L Γ0 N) : ∀ p, p ∈ N → needHas L Γ0 p := by
  induction h with
  | nil => exact fun p hp => by cases hp
  | cons h _ ih =>
    intro p hp
    rcases List.mem_cons.1 hp with rfl | hp
    · exact h
    · exact ih p hp
/-- The steps of a region's operations, from number i on. -/
inductive Steps_ (P : Program) (n : Nat) (l : List Oper) (L : List (List Ent)) (Γ0 : List Ent) : Nat → Nat → Prop
  | nil (i : Nat) : Steps_ P n l L Γ0 i 0
  | cons {i m : Nat} (N : List (Option Nat × Ent)) : OpRun P n l.toArray i (NL N) (L.getD i []) → NeedHas L Γ0 N → N.all (needOk l L i) = true → Steps_ P n l L Γ0 (i + 1) m → Steps_ P n l L Γ0 i (m + 1)
theorem Steps_.at {P : Program} {n : Nat} {l : List Oper} {L : List (List Ent)} {Γ0 : List Ent} {i m : Nat} (h : Steps_ P n l L Γ0 i m) : ∀ j, i ≤ j → j < i + m → ∃ N, OpRun P n l.toArray j (NL N) (L.getD j []) ∧ NeedHas L Γ0 N ∧ N.all (needOk l L j) = true := by
  induction h with
  | nil => intro j h1 h2; omega
  | @cons i m N h1 h2 h3 _ ih =>
    intro j hj1 hj2
    by_cases e : j = i
    · subst e; exact ⟨N, h1, h2, h3⟩
    · exact ih j (by omega) (by omega)
theorem nodup_le : ∀ (n : Nat) (D : List Nat), D.Nodup → (∀ k, k ∈ D → k < n) → D.length ≤ n
  | 0, D, _, h => by
    cases D with
    | nil => exact Nat.le_refl _
    | cons x D => exact absurd (h x (by simp)) (by omega)
  | n + 1, D, hd, h => by
    have h1 := nodup_le n (D.erase n) (hd.erase n) (fun k hk => by
      have h2 := (List.Nodup.mem_erase_iff hd).1 hk
      have := h k h2.2
      omega)
    have h3 := List.length_erase (a := n) (l := D)
    split at h3 <;> omega
theorem goes_drawn {P : Program} {c : Ctx} {Γ0 : List Ent} {Q : Exit → Act → World → Prop} {id : Nat} {l : List Oper} (L : List (List Ent)) (hm : P.follows .mixedOrders = true) (he : edgesOk l = true) (hf : finOk l L = true) (hs : Steps_ P c.n l L Γ0 0 l.length)
    (next : Ends c (ΓD L Γ0 (List.range l.length).reverse) Q .normal) : Goes P c Γ0 (.region id l.toArray true) Q := fun a w hi => by
  refine wpIn_region_any hm ?_
  have hi0 : Inv c Γ0 a { w with drawn := w.drawn + 1 } := by
    obtain ⟨h1, h2, h3, θ, S, h4, h5⟩ := hi
    exact ⟨h1, h2, ⟨h3.os, h3.tape, h3.output, h3.size, h3.block⟩, θ, S, h4, sat_mono (sat_move h5 (fun b hb => rfl) (fun b hb => hb) (fun b hb => rfl) (fun t _ => rfl) (fun k _ => rfl)) (fun k hk => hk) (fun b hb => hb)⟩
  have main : ∀ (fuel : Nat) (D : List Nat) (listed : Array Bool) (a : Act) (w : World), Down l D → listed.size = l.length → (∀ i, i < l.length → (listed.getD i true = true ↔ i ∈ D)) → l.length ≤ fuel + D.length → Inv c (ΓD L Γ0 D) a w → wpAnyIn (rf c.rd) 0 P .any l.toArray Q fuel listed a w := by
    intro fuel
    have hready : ∀ (D : List Nat) (listed : Array Bool), listed.size = l.length → (∀ i, i < l.length → (listed.getD i true = true ↔ i ∈ D)) → ∀ i, i ∈ Region.ready .any l.toArray listed → i < l.length ∧ i ∉ D ∧ ∀ k, dir l k i = true → k ∈ D := by
      intro D listed hsz hl i hm
      simp only [Region.ready, List.mem_filter, List.mem_range, List.size_toArray, Bool.and_eq_true, Bool.not_eq_true'] at hm
      obtain ⟨h1, h2, h3⟩ := hm
      refine ⟨h1, fun hD => ?_, fun k hk => ?_⟩
      · rw [(hl i h1).2 hD] at h2; cases h2
      · unfold dir at hk
        have ho : l.toArray[i]? = l[i]? := by simp
        rw [ho] at h3
        cases hoi : l[i]? with
        | none => rw [hoi] at hk; cases hk
        | some o =>
          rw [hoi] at hk h3
          simp only [Option.map_some, Option.getD_some] at h3
          obtain ⟨e, he1, he2⟩ := List.any_eq_true.1 hk
          simp only [Bool.and_eq_true, beq_iff_eq] at he2
          have h4 := Array.all_eq_true_iff_forall_mem.1 h3 e (by simpa using he1)
          simp only [he2.2, Bool.not_true, Bool.false_or] at h4
          have hlt : e.on < l.length := by
            have h5 := List.all_eq_true.1 he i (by simpa using h1)
            rw [hoi] at h5
            have h6 := List.all_eq_true.1 h5 e he1
            simp only [he2.2, Bool.not_true, Bool.false_or] at h6
            have := blt_lt h6; omega
          rw [← he2.1]
          refine (hl _ hlt).1 ?_
          rw [Array.getD_eq_getD_getElem?] at h4 ⊢
          rw [Array.getElem?_eq_getElem (by omega)] at h4 ⊢
          exact h4
    have hend : ∀ (D : List Nat) (listed : Array Bool), Down l D → listed.size = l.length → (∀ i, i < l.length → (listed.getD i true = true ↔ i ∈ D)) → Region.ready .any l.toArray listed = [] → ∀ k, k < l.length → k ∈ D := by
      intro D listed hD hsz hl hr k
      induction k using Nat.strongRecOn with
      | _ k ih =>
        intro hk
        by_cases hkD : k ∈ D
        · exact hkD
        · exfalso
          have hmem : k ∈ Region.ready .any l.toArray listed := by
            simp only [Region.ready, List.mem_filter, List.mem_range, List.size_toArray, Bool.and_eq_true, Bool.not_eq_true']
            refine ⟨hk, ?_, ?_⟩
            · rw [Bool.eq_false_iff]; exact fun h => hkD ((hl k hk).1 h)
            · have ho : l.toArray[k]? = l[k]? := by simp
              rw [ho, List.getElem?_eq_getElem hk]
              simp only [Option.map_some, Option.getD_some]
              refine Array.all_eq_true_iff_forall_mem.2 (fun e he1 => ?_)
              cases hb : Region.binds .any e with
              | false => rfl
              | true =>
                simp only [Bool.not_true, Bool.false_or]
                have h5 := List.all_eq_true.1 he k (by simpa using hk)
                rw [List.getElem?_eq_getElem hk] at h5
                have h6 := List.all_eq_true.1 h5 e (by simpa using he1)
                simp only [hb, Bool.not_true, Bool.false_or] at h6
                have hlt := blt_lt h6
                have := (hl e.on (by omega)).2 (ih e.on hlt (by omega))
                rw [Array.getD_eq_getD_getElem?] at this ⊢
                rw [Array.getElem?_eq_getElem (by omega)] at this ⊢
                exact this
          rw [hr] at hmem
          cases hmem
    have hq : ∀ (D : List Nat) (listed : Array Bool) (a : Act) (w : World), Down l D → listed.size = l.length → (∀ i, i < l.length → (listed.getD i true = true ↔ i ∈ D)) → Inv c (ΓD L Γ0 D) a w → Region.ready .any l.toArray listed = [] → Q .normal a w := fun D listed a w hD hsz hl hinv hr =>
      next a w (hinv.sub (fin_has hD (hend D listed hD hsz hl hr) hf))
    induction fuel with
    | zero =>
      intro D listed a w hD hsz hl hlen hinv
      have hr : Region.ready .any l.toArray listed = [] := by
        refine List.eq_nil_iff_forall_not_mem.2 (fun i hi => ?_)
        obtain ⟨h1, h2, h3⟩ := hready D listed hsz hl i hi
        have hD' : Down l (i :: D) := ⟨h3, h2, h1, hD⟩
        have hnd : ∀ {D : List Nat}, Down l D → D.Nodup := by
          intro D
          induction D with
          | nil => intro _; exact List.nodup_nil
          | cons x D ih => intro h; exact List.nodup_cons.2 ⟨h.2.1, ih h.2.2.2⟩
        have hsub := nodup_le l.length (i :: D) (hnd hD') (fun x hx => hD'.lt x hx)
        simp at hsub
        omega
      exact ⟨hr, hq D listed a w hD hsz hl hinv hr⟩
    | succ fuel ih =>
      intro D listed a w hD hsz hl hlen hinv
      refine ⟨hq D listed a w hD hsz hl hinv, fun i hi => ?_⟩
      obtain ⟨h1, h2, h3⟩ := hready D listed hsz hl i hi
      obtain ⟨N, n1, n2, n3⟩ := hs.at i (Nat.zero_le _) (by omega)
      have hrun := n1 c (ΓD L Γ0 D) a w Q rfl (fun e he => by
        obtain ⟨p, hp, rfl⟩ := he
        exact need_has hD h2 h3 (List.all_eq_true.1 n3 p hp) (n2.mem p hp)) hinv
      refine wpOpIn_mono (fun a' w' h' => ?_) hrun
      refine ih (i :: D) (listed.setIfInBounds i true) a' w' ⟨h3, h2, h1, hD⟩ (by simp [hsz]) (fun k hk => ?_) (by simp; omega) (by unfold ΓD at h' ⊢; rw [List.flatMap_cons, List.append_assoc]; exact h')
      rw [Array.getD_eq_getD_getElem?, Array.getElem?_setIfInBounds]
      by_cases e : i = k
      · subst e
        rw [if_pos rfl, if_pos (by omega)]
        simp
      · rw [if_neg e, ← Array.getD_eq_getD_getElem?, hl k hk, List.mem_cons]
        exact ⟨fun h => .inr h, fun h => h.resolve_left (fun e' => e e'.symm)⟩
  exact main l.length [] (Array.replicate l.length false) a _ trivial (by simp) (fun i hi => by simp [hi]) (by simp) hi0
end Go.Proofs.Ytedgkcdofiildaa.Sl
/- What the printed texts use: the laws with their side conditions as computations. -/
set_option linter.unusedVariables false
set_option linter.unusedSimpArgs false
namespace Go.Proofs.Ytedgkcdofiildaa.Sl
open Go Go.RowKit
def noIds (l : List VA) : Bool := l.all (·.ids.isEmpty)
theorem noIds_spec {l : List VA} (h : noIds l = true) : ∀ A, A ∈ l → A.ids = [] := fun A hA => by simpa using List.all_eq_true.1 h A hA
inductive FreeL : List VA → Prop
  | nil : FreeL []
  | cons {A : VA} {l : List VA} : Free A → FreeL l → FreeL (A :: l)
theorem FreeL.spec {l : List VA} (h : FreeL l) : ∀ A, A ∈ l → Free A := by
  induction h with
  | nil => exact fun A hA => by cases hA
  | cons h _ ih =>
    intro A hA
    rcases List.mem_cons.1 hA with rfl | hA
    · exact h
    · exact ih A hA
/-- Kinds that lean on no memory. -/
def KFree {α : Type} (K : Kn α) : Prop := ∀ {S S' : Blk} {w : World} {x : α} {cs : List Value}, K.R S w x cs → K.R S' w x cs
theorem KFree.int (k : IntKind) : KFree (kint k) := fun h => h
theorem KFree.bool : KFree kbool := fun h => h
theorem KFree.str : KFree kstr := fun h => h
theorem KFree.pair {α β : Type} {a : Kn α} {b : Kn β} (ha : KFree a) (hb : KFree b) : KFree (kpair a b) := by
  rintro S S' w x cs ⟨c0, c1, rfl, h0, h1⟩
  exact ⟨c0, c1, rfl, ha h0, hb h1⟩
theorem KFree.iso {α β : Type} {d : Kn α} (f : β → α) (h : KFree d) : KFree (kiso d f) := fun {S S' w x cs} hx => h (show d.R S w (f x) cs from hx)
theorem KFree.k {α : Type} {K : Kn α} (h : KFree K) (x : α) : Free (VA.k K x) := fun {θ S S' ob w v} hv => by
  obtain ⟨h0, cs, h1, h2⟩ := hv
  exact ⟨h0, cs, h h1, h2⟩
theorem KFree.own {α : Type} {K : Kn α} (h : KFree K) (e : TypeId) (x : List α) : Free (VA.own e K x) := fun {θ S S' ob w v} hv => by
  obtain ⟨h0, inner, h1, h2⟩ := hv
  exact ⟨h0, inner, h1, fun j p hj => h (h2 j p hj)⟩
theorem Con.freeL {P : Program} {f : FuncId} {args res : List VA} (h : Con P f args res) (hf : FreeL res) : ConF P f args res := h.free hf.spec
section
variable {P : Program} {n d : Nat} {ty t t' : TypeId} {pos : String} {af : Array Edge} {g : Option (Nat × Bool)} {N : Ent → Prop}
theorem op_call' {f : FuncId} {xs : List Operand} {at_ : Array TypeId} {As : List VA} {A : VA} (hd : Nat.blt d n = true) (hf : Enters P f) (hC : Con P f As [A]) (hids : noIds [A] = true) (hx : Args (ArgP N) xs As) :
    OpSpec P n ⟨some d, .call { callee := .value (.func f), args := xs.toArray, argTypes := at_ }, ty, pos, af, g⟩ N [Ent.t d A] := op_call hd hf hC (noIds_spec hids A (by simp)) hx
theorem op_calls' {f : FuncId} {xs : List Operand} {at_ : Array TypeId} {As res : List VA} (hd : Nat.blt d n = true) (hf : Enters P f) (hC : Con P f As res) (hl : Nat.beq res.length 1 = false) (hids : noIds res = true) (hx : Args (ArgP N) xs As) :
    OpSpec P n ⟨some d, .call { callee := .value (.func f), args := xs.toArray, argTypes := at_ }, ty, pos, af, g⟩ N (resEnts d res 0) := op_calls hd hf hC hl (noIds_spec hids) hx
theorem op_callF' {f : FuncId} {xs : List Operand} {at_ : Array TypeId} {As : List VA} {A : VA} (hd : Nat.blt d n = true) (hf : Enters P f) (hC : ConF P f As [A]) (hids : noIds [A] = true) (hx : Args (ArgB N) xs As) :
    OpSpec P n ⟨some d, .call { callee := .value (.func f), args := xs.toArray, argTypes := at_ }, ty, pos, af, g⟩ N [Ent.t d A] := op_callF hd hf hC (noIds_spec hids A (by simp)) hx
theorem op_callsF' {f : FuncId} {xs : List Operand} {at_ : Array TypeId} {As res : List VA} (hd : Nat.blt d n = true) (hf : Enters P f) (hC : ConF P f As res) (hl : Nat.beq res.length 1 = false) (hids : noIds res = true) (hx : Args (ArgB N) xs As) :
    OpSpec P n ⟨some d, .call { callee := .value (.func f), args := xs.toArray, argTypes := at_ }, ty, pos, af, g⟩ N (resEnts d res 0) := op_callsF hd hf hC hl (noIds_spec hids) hx
theorem plain_k {α : Type} {K : Kn α} {x : α} : Plain (VA.k K x) := fun {θ S ob w v} h => h.1
theorem plain_ptr {id off : Nat} : Plain (VA.ptr id off) := fun {θ S ob w v} h => h.1
theorem plain_pt {α : Type} {K : Kn α} {x : α} : Plain (VA.pt K x) := fun {θ S ob w v} h => h.1
theorem plain_v {x : Value} : Plain (VA.v x) := fun {θ S ob w v} h => h.1
theorem op_pick_t {α : Type} {K : Kn α} {b : Bool} {a : α} {x y z : Operand} (hd : Nat.blt d n = true) (hb : b = true) (hx : Arg N x (VA.k kbool b)) (hy : Arg N y (VA.k K a)) :
    OpSpec P n ⟨some d, .pick x y z, ty, pos, af, g⟩ N [Ent.t d (VA.k K a)] := op_pure hd fun θ S act w hN => by
  obtain ⟨_, h1⟩ := hx θ S act w hN
  have e1 := k_bool h1
  subst hb
  obtain ⟨_, h2⟩ := hy θ S act w hN
  exact ⟨act.eval y, by clear h1 h2 hx hy hN; generalize act.eval = ρ at *; simp [execOp, e1, go_sem], rfl, h2.2⟩
theorem op_pick_f {α : Type} {K : Kn α} {b : Bool} {a : α} {x y z : Operand} (hd : Nat.blt d n = true) (hb : b = false) (hx : Arg N x (VA.k kbool b)) (hz : Arg N z (VA.k K a)) :
    OpSpec P n ⟨some d, .pick x y z, ty, pos, af, g⟩ N [Ent.t d (VA.k K a)] := op_pure hd fun θ S act w hN => by
  obtain ⟨_, h1⟩ := hx θ S act w hN
  have e1 := k_bool h1
  subst hb
  obtain ⟨_, h2⟩ := hz θ S act w hN
  exact ⟨act.eval z, by clear h1 h2 hx hz hN; generalize act.eval = ρ at *; simp [execOp, e1, go_sem], rfl, h2.2⟩
end
section
variable {P : Program} {n : Nat} {w0 : World} {S0 : Blk} {θ : Nat → Nat} {Γ : List Ent} {fn : Func} {res : List VA}
theorem ends_ret' {rts : List ResultVar} (hr : fn.results = rts.toArray) (hids : noIds res = true) (h : Rets P Γ [] rts res) : Ends (ctx w0 S0 [] n) Γ (bodyPost P fn (CPost w0 S0 θ res)) .ret := ends_ret rts (by rw [hr]) (noIds_spec hids) h
end
section
variable {P : Program} {c : Ctx} {Γ : List Ent} {Q : Exit → Act → World → Prop} {ops : Array Oper} {rest : List Oper} {o : Oper}
/-- An operation whose guard holds. -/
theorem goG {Δ : List Ent} {j d : Nat} {oj : Oper} {b b' : Bool} (h : OpSpec P c.n o (Has [] Γ) Δ) (hg : slg o = some (j, b)) (hj : ops[j]? = some oj) (hd : oj.dst = some d) (hv : findE [] Γ d = some (Ent.t d (VA.k kbool b'))) (hb : b' = b) (next : GoesO P c (Δ ++ Γ) ops rest Q) : GoesO P c Γ ops (o :: rest) Q :=
  fun a w hi => wpListIn_step fun K hK => by
    obtain ⟨hg, hnd⟩ := gd_spec hg
    have hi' := hi
    obtain ⟨_, _, _, θ, S, _, h5⟩ := hi'
    obtain ⟨_, hv, _⟩ := sat_take (has_find hv) h5
    subst hb
    have hy := yields (a := a) hj hd (k_bool (θ := θ) (S := S) (w := w) hv)
    rw [if_pos (by simp [Region.wanted, hg, hy])]
    exact wp_in hnd (Oper.wp_mono (fun a' w' h' => hK a' w' (next a' w' h')) (h c Γ a w Q rfl (fun _ he => he) hi))
/-- One whose guard does not. -/
theorem goS {j d x : Nat} {oj : Oper} {b b' : Bool} (hg : slg o = some (j, b)) (hj : ops[j]? = some oj) (hd : oj.dst = some d) (hx : o.dst = some x) (hxn : Nat.blt x c.n = true) (hv : findE [] Γ d = some (Ent.t d (VA.k kbool b'))) (hb : b' = !b) (next : GoesO P c (Ent.t x (VA.v undef) :: Γ) ops rest Q) : GoesO P c Γ ops (o :: rest) Q :=
  fun a w hi => wpListIn_step fun K hK => by
    obtain ⟨hg, hnd⟩ := gd_spec hg
    obtain ⟨h1, h2, h3, θ, S, h4, h5⟩ := hi
    obtain ⟨_, hv, _⟩ := sat_take (has_find hv) h5
    subst hb
    have hy := yields (a := a) hj hd (k_bool (θ := θ) (S := S) (w := w) hv)
    rw [if_neg (by simp [Region.wanted, hg, hy]), hx]
    exact ⟨fun _ _ => trivial, hK _ _ (next _ _ (inv_put (A := VA.v undef) (θ := θ) (S := S) hxn h1 h2 h3 h4 h5 rfl ⟨rfl, rfl⟩))⟩
theorem goSU {j d x : Nat} {oj : Oper} {b : Bool} (hg : slg o = some (j, b)) (hj : ops[j]? = some oj) (hd : oj.dst = some d) (hx : o.dst = some x) (hxn : Nat.blt x c.n = true) (hv : findE [] Γ d = some (Ent.t d (VA.v undef))) (next : GoesO P c (Ent.t x (VA.v undef) :: Γ) ops rest Q) : GoesO P c Γ ops (o :: rest) Q :=
  fun a w hi => wpListIn_step fun K hK => by
    obtain ⟨hg, hnd⟩ := gd_spec hg
    obtain ⟨h1, h2, h3, θ, S, h4, h5⟩ := hi
    obtain ⟨_, ⟨_, hv⟩, _⟩ := sat_take (has_find hv) h5
    have hy := yields_no (b := b) hj hd hv
    rw [if_neg (by simp [Region.wanted, hg, hy]), hx]
    exact ⟨fun _ _ => trivial, hK _ _ (next _ _ (inv_put (A := VA.v undef) (θ := θ) (S := S) hxn h1 h2 h3 h4 h5 rfl ⟨rfl, rfl⟩))⟩
/-- A choice in what is computed, ahead of an operation that hangs on it. -/
theorem goesO_split {τ : Type} {l : List Oper} {b : Bool} {A B : Option τ} {r : τ} (H : cond b A B = some r) (ht : b = true → A = some r → GoesO P c Γ ops l Q) (hf : b = false → B = some r → GoesO P c Γ ops l Q) : GoesO P c Γ ops l Q := by
  cases b with
  | true => exact ht rfl H
  | false => exact hf rfl H
theorem goes_split {τ : Type} {k : Code} {b : Bool} {A B : Option τ} {r : τ} (H : cond b A B = some r) (ht : b = true → A = some r → Goes P c Γ k Q) (hf : b = false → B = some r → Goes P c Γ k Q) : Goes P c Γ k Q := by
  cases b with
  | true => exact ht rfl H
  | false => exact hf rfl H
theorem goes_if {τ : Type} {x y : Code} {o : Operand} {b : Bool} {A B : Option τ} {r : τ} (hc : Arg (Has [] Γ) o (VA.k kbool b)) (H : cond b A B = some r) (ht : b = true → A = some r → Goes P c Γ x Q) (hf : b = false → B = some r → Goes P c Γ y Q) : Goes P c Γ (.cond o x y) Q :=
  goes_cond hc (fun e => ht e (by rw [e] at H; exact H)) (fun e => hf e (by rw [e] at H; exact H))
/-- A test whose answer is known. -/
theorem goes_ifT {x y : Code} {o : Operand} {b : Bool} (hc : Arg (Has [] Γ) o (VA.k kbool b)) (hb : b = true) (ht : Goes P c Γ x Q) : Goes P c Γ (.cond o x y) Q := goes_cond hc (fun _ => ht) (fun e => by rw [hb] at e; cases e)
theorem goes_ifF {x y : Code} {o : Operand} {b : Bool} (hc : Arg (Has [] Γ) o (VA.k kbool b)) (hb : b = false) (hf : Goes P c Γ y Q) : Goes P c Γ (.cond o x y) Q := goes_cond hc (fun e => by rw [hb] at e; cases e) (fun _ => hf)
theorem go2 {e1 e2 : Ent} (h : OpSpec P c.n o (Has [] Γ) [e1, e2]) (hg : slq o = true) (next : GoesO P c (e1 :: e2 :: Γ) ops rest Q) : GoesO P c Γ ops (o :: rest) Q := goN h hg next
theorem go3 {e1 e2 e3 : Ent} (h : OpSpec P c.n o (Has [] Γ) [e1, e2, e3]) (hg : slq o = true) (next : GoesO P c (e1 :: e2 :: e3 :: Γ) ops rest Q) : GoesO P c Γ ops (o :: rest) Q := goN h hg next
end
/-- What a type's element rows need, as a computation. -/
def atB (P : Program) (e sz bytes : Nat) : Bool := match P.info? e with
  | some i => (match i.zero with | some z => Nat.beq z.cells.size sz | none => false) && Nat.beq i.size sz && Nat.beq i.bytes bytes
  | none => false
theorem at_of {α : Type} {P : Program} {t e : TypeId} {K : Kn α} {bytes : Nat} (hu : P.underlying t = some (.slice e)) (h : atB P e K.sz bytes = true) (hp : Nat.blt 0 K.sz = true) (hb : Nat.blt 0 bytes = true) : AT P t e K bytes := by
  refine ⟨hu, ?_, blt_lt hp, blt_lt hb⟩
  unfold atB at h
  cases hi : P.info? e with
  | none => rw [hi] at h; cases h
  | some i =>
    rw [hi] at h
    cases hz : i.zero with
    | none => simp [hz] at h
    | some z =>
      simp only [hz, Bool.and_eq_true] at h
      exact ⟨i, z, rfl, hz, Nat.eq_of_beq_eq_true h.1.2, Nat.eq_of_beq_eq_true h.2, Nat.eq_of_beq_eq_true h.1.1⟩
theorem tk_of' {α : Type} {P : Program} {t : TypeId} {K : Kn α} {d : TypeDesc} (h : P.underlying t = some d) (ha : aggD d = K.agg) (hs : P.cellsOf t = K.sz) (hf : K.agg = false → K.sz = 1) (hp : Nat.blt 0 K.sz = true) : TK P t K := by
  cases hi : P.info? t with
  | none =>
    unfold Program.cellsOf at hs
    rw [hi] at hs
    have := blt_lt hp
    simp at hs; omega
  | some i => exact tk_of h hi ha (by unfold Program.cellsOf at hs; rw [hi] at hs; simpa using hs) hf (blt_lt hp)
theorem zk_of {α : Type} {P : Program} {t : TypeId} {K : Kn α} {x : α} {v : Value} {cs : List Value} (h : (P.info? t).bind (·.zero) = some v) (hv : v.cells.toList = cs) (hr : ∀ S w, K.R S w x cs) : ZK P t K x := by
  cases hi : P.info? t with
  | none => rw [hi] at h; cases h
  | some i => rw [hi] at h; exact ⟨i, v, hi, h, fun S w => by rw [hv]; exact hr S w⟩
def ZR {α : Type} (K : Kn α) (x : α) (cs : List Value) : Prop := ∀ S w, K.R S w x cs
theorem zr_int (k : IntKind) : ZR (kint k) 0 [.int k 0] := fun _ _ => rfl
theorem zr_bool : ZR kbool false [.bool false] := fun _ _ => rfl
theorem zr_str : ZR kstr ByteArray.empty [.string ByteArray.empty] := fun _ _ => rfl
theorem zr_slice {α : Type} (K : Kn α) : ZR (kslice K) [] [.slice none 0 0] := fun _ _ => ⟨none, 0, rfl, Nat.le_refl _, Nat.zero_le _, Row.nil _ _ _ _⟩
theorem zr_pair {α β : Type} {a : Kn α} {b : Kn β} {x : α} {y : β} {c d : List Value} (h1 : ZR a x c) (h2 : ZR b y d) : ZR (kpair a b) (x, y) (c ++ d) := fun S w => ⟨c, d, rfl, h1 S w, h2 S w⟩
theorem zr_iso {α β : Type} {d : Kn α} {f : β → α} {y : β} {x : α} {cs : List Value} (h : ZR d x cs) (he : f y = x) : ZR (kiso d f) y cs := fun S w => by
  show d.R S w (f y) cs
  rw [he]; exact h S w
end Go.Proofs.Ytedgkcdofiildaa.Sl
/- Texts put together; division; the greater of two. -/
set_option linter.unusedVariables false
set_option linter.unusedSimpArgs false
namespace Go.Proofs.Ytedgkcdofiildaa.Sl
open Go Go.RowKit
def divok (y : Int) : Option Unit := if y = 0 then none else some ()
theorem divok_spec {y : Int} {z : Unit} (h : divok y = some z) : y ≠ 0 := by
  unfold divok at h
  split at h
  · cases h
  · assumption
end Go.Proofs.Ytedgkcdofiildaa.Sl
/- Elements of the frame's own rows; rows that are made; tuples under another slot. -/
set_option linter.unusedVariables false
set_option linter.unusedSimpArgs false
set_option linter.unnecessarySimpa false
set_option linter.deprecated false
namespace Go.Proofs.Ytedgkcdofiildaa.Sl
open Go Go.RowKit
section
variable {P : Program} {n d : Nat} {ty t t' : TypeId} {pos : String} {af : Array Edge} {g : Option (Nat × Bool)} {N : Ent → Prop}
theorem inv_put_e {c : Ctx} {Γ : List Ent} {a : Act} {w w' : World} {d : Nat} {e : Ent} {v : Value} {θ : Nat → Nat} {S : Blk} (hd : Nat.blt d c.n = true) (hk : e.key = d) (h1 : a.defers = c.df) (h2 : a.tmps.size = c.n ∧ c.n ≤ 1000000) (h3 : Fr c.X c.w0 w') (h4 : SOk c S w')
    (h5 : sat θ S a w [] Γ (free c S w)) (hw : w'.heap = w.heap) (hA : e.sem θ S (bk none) (a.put (some d) v) w') : Inv c (e :: Γ) (a.put (some d) v) w' := by
  refine ⟨by rw [put_defers]; exact h1, by rw [put_size]; exact h2, h3, θ, S, h4, sat_cons hA ?_⟩
  rw [hk]
  refine sat_mono (sat_move (ks := [d]) (sat_mono h5 (fun k hk => by cases hk) (fun b hb => hb)) (fun b hb => by rw [hw]) (fun b hb => hb) (fun b hb => by rw [hw]) (fun t ht => put_getD_ne (by simpa using ht)) (fun k _ => rfl)) (fun k hk => hk) (fun b hb => ?_)
  obtain ⟨f1, f2, f3⟩ := hb
  exact ⟨f1, by rw [hw]; exact f2, f3⟩
/-- The slot that an operand names, or the one that it repeats. -/
def Slot (N : Ent → Prop) (x s : Nat) : Prop := x = s ∨ N (Ent.same x s)
theorem Slot.of {N : Ent → Prop} {s : Nat} : Slot N s s := .inl rfl
theorem Slot.same {N : Ent → Prop} {x s : Nat} (h : N (Ent.same x s)) : Slot N x s := .inr h
theorem Slot.eval {N : Ent → Prop} {x s : Nat} (h : Slot N x s) {θ : Nat → Nat} {S : Blk} {a : Act} {w : World} (hN : ∀ e, N e → ∃ ob, e.sem θ S ob a w) : a.tmps.getD x undef = a.tmps.getD s undef := by
  rcases h with rfl | h
  · rfl
  · obtain ⟨_, _, e⟩ := hN _ h
    exact e
theorem op_extract_same {j : Nat} {A : VA} {q s : Nat} (hd : Nat.blt d n = true) (hA : Plain A) (hq : N (Ent.same q s)) (h : N (Ent.c s j A)) :
    OpSpec P n ⟨some d, .extract (.tmp q) j, ty, pos, af, g⟩ N [Ent.t d A] := op_pure hd fun θ S act w hN => by
  obtain ⟨ob, vs, v, e1, e2, h3⟩ := hN _ h
  obtain ⟨_, _, e0⟩ := hN _ hq
  obtain rfl := hA h3
  refine ⟨v, ?_, h3⟩
  have e1' : act.eval (.tmp q) = .tuple vs := e0.trans e1
  clear e1 hN e0
  generalize act.eval = ρ at *
  simp [execOp, Instr.extract, e1', e2, Sem.run_bind, Sem.run_pure, Result.andThen_ok]
theorem op_extract_own_same {j : Nat} {A : VA} {q s : Nat} (hd : Nat.blt d n = true) (hds : Nat.beq d s = false) (hj : Nat.blt j 1000 = true) (hq : N (Ent.same q s)) (h : N (Ent.c s j A)) :
    OpSpec P n ⟨some d, .extract (.tmp q) j, ty, pos, af, g⟩ N [Ent.t d A, Ent.c s j VA.any] := by
  rintro c Γ a w Q rfl hN ⟨h1, h2, h3, θ, S, h4, h5⟩
  obtain ⟨_, _, e0⟩ := (sems hN h5) _ hq
  obtain ⟨ob, ⟨vs, v, e1, e2, hA⟩, hav, h6⟩ := sat_take (hN _ h) h5
  have e1' : a.eval (.tmp q) = .tuple vs := e0.trans e1
  have hrun : (execOp a.eval ⟨some d, .extract (.tmp q) j, ty, pos, af, g⟩).run P w = .ok (.value v) w := by
    clear hN h1 h2 h5 h6 e1 e0
    generalize a.eval = ρ at *
    simp [execOp, Instr.extract, e1', e2, Sem.run_bind, Sem.run_pure, Result.andThen_ok]
  have hdn := blt_lt hd
  have hne : d ≠ s := fun e => by rw [e, Nat.beq_refl] at hds; cases hds
  unfold Oper.wp
  rw [hrun]
  show Inv c _ (a.put (some d) v) w
  refine ⟨by rw [put_defers]; exact h1, by rw [put_size]; exact h2, h3, θ, S, h4, ?_⟩
  refine sat_consO (ob := ob) (dead_nil _) ?_ hav (sat_consK ?_ ?_ ?_)
  · show A.sem θ S ob w ((a.put (some d) v).tmps.getD d undef)
    rw [put_getD_self (by omega)]
    exact hA
  · refine dead_iff (fun k hk => ?_)
    simp only [Ent.t, List.mem_singleton] at hk
    simp only [Ent.deps, Ent.c, VA.any, List.map_nil, List.append_nil, List.mem_cons, List.not_mem_nil, or_false]
    omega
  · refine ⟨vs, v, ?_, e2, rfl⟩
    rw [put_getD_ne (fun e => hne e.symm)]
    exact e1
  · have h7 := sat_mono h6 (ks' := [(Ent.c s j A).key, d]) (fun k hk => by simp at hk; simp [hk]) (fun b hb => hb)
    exact sat_mono (sat_move h7 (Agree.refl _ _) (fun b hb => hb) (fun b hb => rfl) (fun t ht => put_getD_ne (fun e => ht (by simp [e]))) (fun k hk => rfl)) (fun k hk => hk) (fun b hb => hb)
end
end Go.Proofs.Ytedgkcdofiildaa.Sl
/- Maps under texts: made, read, written; as kinds where they are only read. -/
set_option linter.unusedVariables false
set_option linter.unusedSimpArgs false
set_option linter.unnecessarySimpa false
set_option linter.deprecated false
namespace Go.Proofs.Ytedgkcdofiildaa.Sl
open Go Go.RowKit Go.WideMaps Go.Maps
def valR : Value → Option (DataW Value × List MemPlace) := fun v => some (.held v, [])
/-- Block b of w is a map of at most n entries; f says what lies under each key. -/
def VMap (P : Program) (k : TypeId) (w : World) (b n : Nat) (f : Lit → Option Value) : Prop :=
  ∃ D : DataW Value, w.ownsMap P k valR b n D ∧ ∀ kl : Lit, WideAt.IsKeyLit kl → (∀ z, D.atKey kl (.held z) = .held ((f kl).getD z)) ∧ Go.Maps.has D kl = (f kl).isSome
def upd (f : Lit → Option Value) (kl : Lit) (v : Option Value) : Lit → Option Value := fun x => if x.sameKey kl = true then v else f x
def sk (s : ByteArray) : Lit := .string s.data.toList
theorem sk_inj {a b : ByteArray} (h : sk a = sk b) : a = b := by
  unfold sk at h
  injection h with h
  have : a.data = b.data := Array.toList_inj.1 h
  cases a; cases b; simpa using this
theorem sk_same (a b : ByteArray) : (sk a).sameKey (sk b) = decide (a = b) := by
  by_cases h : a = b
  · subst h; simp [sk, Lit.sameKey]
  · rw [sameKey_ne (fun e => h (sk_inj e)), decide_eq_false h]
section
variable {P : Program} {k : TypeId} {w w' : World} {b n : Nat} {f : Lit → Option Value}
theorem VMap.made (P : Program) (k : TypeId) (w : World) : VMap P k (w.alloc (.map #[] 0)) w.heap.size 0 (fun _ => none) :=
  ⟨.map [], World.ownsMap_made w P k valR, fun kl _ => ⟨fun z => rfl, rfl⟩⟩
theorem VMap.same (h : VMap P k w b n f) (hb : w'.heap[b]? = w.heap[b]?) : VMap P k w' b n f := by
  obtain ⟨D, ⟨es, clock, e, r⟩, hf⟩ := h
  exact ⟨D, ⟨es, clock, hb.trans e, r⟩, hf⟩
theorem VMap.lt (h : VMap P k w b n f) : b < w.heap.size := by
  obtain ⟨D, ho, _⟩ := h
  exact ho.lt
theorem VMap.mono (h : VMap P k w b n f) {n' : Nat} (hn : n ≤ n') : VMap P k w b n' f := by
  obtain ⟨D, ho, hf⟩ := h
  exact ⟨D, ho.mono hn, hf⟩
theorem VMap.look {t e : TypeId} {z key : Value} {kl : Lit} (h : VMap P k w b n f) (K : Keyed P k) (ht : P.underlying t = some (.map k e)) (hz : (zeroValue e).run P w = .ok z w) (hkey : keyOf P k key = some kl) :
    (Instr.lookup t (.map (some b)) key false).run P w = .ok ((f kl).getD z) w := by
  obtain ⟨D, ho, hf⟩ := h
  obtain ⟨v, ps, hrun, hv⟩ := ho.lookup K ht hz (zd := .held z) (zp := []) rfl hkey
  rw [(hf kl (K.key hkey)).1 z] at hv
  simp only [valR, Option.some.injEq, Prod.mk.injEq, DataW.held.injEq] at hv
  rw [hrun, hv.1]
theorem VMap.put {t e : TypeId} {key val : Value} {kl : Lit} (h : VMap P k w b n f) (K : Keyed P k) (ht : P.underlying t = some (.map k e)) (hn : n < maxLen) (hkey : keyOf P k key = some kl) :
    ∃ w', (Instr.mapUpdate t (.map (some b)) key val).run P w = .ok () w' ∧ VMap P k w' b (n + 1) (upd f kl (some val)) ∧ w.mapTurned w' b := by
  obtain ⟨D, ho, hf⟩ := h
  obtain ⟨w', hrun, ho', hg⟩ := ho.store K ht hn hkey (val := val) (d := .held val) (ps := []) rfl
  refine ⟨w', hrun, ⟨_, ho', fun x hx => ?_⟩, hg⟩
  unfold upd
  by_cases hxk : x = kl
  · subst hxk
    rw [if_pos (WideAt.sameKey_self hx)]
    exact ⟨fun z => atKey_put_same ho.isMap hx _ _, has_put_same ho.isMap hx _⟩
  · rw [if_neg (by rw [sameKey_ne hxk]; decide)]
    exact ⟨fun z => by rw [atKey_put_other hxk]; exact (hf x hx).1 z, by rw [has_put_other hxk]; exact (hf x hx).2⟩
theorem VMap.del {t e : TypeId} {key : Value} {kl : Lit} (h : VMap P k w b n f) (K : Keyed P k) (ht : P.underlying t = some (.map k e)) (hkey : keyOf P k key = some kl) (ty : TypeId) :
    ∃ w', (Builtin.delete_ #[t, k] ty #[.map (some b), key]).run P w = .ok (.tuple #[]) w' ∧ VMap P k w' b n (upd f kl none) ∧ w.mapTurned w' b := by
  obtain ⟨D, ho, hf⟩ := h
  obtain ⟨w', hrun, ho', hg⟩ := ho.drop K ht hkey ty
  refine ⟨w', hrun, ⟨_, ho', fun x hx => ?_⟩, hg⟩
  unfold upd
  by_cases hxk : x = kl
  · subst hxk
    rw [if_pos (WideAt.sameKey_self hx)]
    exact ⟨fun z => atKey_del_same _, has_del_same⟩
  · rw [if_neg (by rw [sameKey_ne hxk]; decide)]
    exact ⟨fun z => by rw [atKey_del_other hxk]; exact (hf x hx).1 z, by rw [has_del_other hxk]; exact (hf x hx).2⟩
end
/-! ### what a map under texts holds -/
structure GM (α : Type) where
  n : Nat
  g : ByteArray → Option α
def gempty {α : Type} : GM α := ⟨0, fun _ => none⟩
def gput {α : Type} (m : GM α) (s : ByteArray) (x : α) : Option (GM α) := if m.n < 9223372036854775807 ∧ s.size ≤ 9223372036854775807 then some ⟨m.n + 1, fun t => if t = s then some x else m.g t⟩ else none
def gdel {α : Type} (m : GM α) (s : ByteArray) : Option (GM α) := if s.size ≤ 9223372036854775807 then some ⟨m.n, fun t => if t = s then none else m.g t⟩ else none
def gget {α : Type} (m : GM α) (z : α) (s : ByteArray) : Option α := if s.size ≤ 9223372036854775807 then some ((m.g s).getD z) else none
/-- Block b holds m. -/
def MapS {α : Type} (P : Program) (kt : TypeId) (K : Kn α) (S : Blk) (w : World) (b : Nat) (m : GM α) : Prop :=
  ∃ f, VMap P kt w b m.n f ∧ ∀ s, match m.g s with
    | none => f (sk s) = none
    | some x => ∃ cs, K.R S w x cs ∧ f (sk s) = some (K.mk_ cs)
theorem MapS.move {α : Type} {P : Program} {kt : TypeId} {K : Kn α} {S S' : Blk} {w w' : World} {b : Nat} {m : GM α} (h : MapS P kt K S w b m) (hA : Agree S w w') (hS : ∀ b, S b → S' b) (hb : w'.heap[b]? = w.heap[b]?) : MapS P kt K S' w' b m := by
  obtain ⟨f, h1, h2⟩ := h
  refine ⟨f, h1.same hb, fun s => ?_⟩
  have := h2 s
  split at this
  · exact this
  · obtain ⟨cs, h3, h4⟩ := this
    exact ⟨cs, K.move h3 hA hS, h4⟩
/-- A map that is only read. -/
def kmap {α : Type} (P : Program) (kt : TypeId) (K : Kn α) : Kn (GM α) where
  sz := 1
  agg := false
  R := fun S w m cs => ∃ b, cs = [.map (some b)] ∧ S b ∧ MapS P kt K S w b m
  len := by rintro S w x cs ⟨b, rfl, _⟩; rfl
  one := by rintro S w x cs ⟨b, rfl, _⟩ u hu; rw [List.mem_singleton.1 hu]; rfl
  move := by rintro S S' w w' x cs ⟨b, rfl, hs, hm⟩ hA hS; exact ⟨b, rfl, hS _ hs, hm.move hA hS (hA _ hs)⟩
def wrapM (agg : Bool) (v : Value) : Value := match agg with | true => .agg #[v] | false => v
/-- A map of the frame's own (agg: within a struct of that one field). -/
def VA.om {α : Type} (P : Program) (kt : TypeId) (K : Kn α) (agg : Bool) (m : GM α) : VA where
  ids := []
  sem := fun _ S ob w v => ∃ b, ob = bk (some b) ∧ v = wrapM agg (.map (some b)) ∧ MapS P kt K S w b m
  move := by rintro θ θ' S S' ob w w' v ⟨b, rfl, h1, h2⟩ hA hS hb _; exact ⟨b, rfl, h1, h2.move hA hS (hb b rfl)⟩
/-- A map by its number. -/
def VA.mp (agg : Bool) (id : Nat) : VA where
  ids := [id]
  sem := fun θ _ ob _ v => ob = bk none ∧ v = wrapM agg (.map (some (θ id)))
  move := by rintro θ θ' S S' ob w w' v ⟨h0, h⟩ _ _ _ hi; exact ⟨h0, by rw [hi id (by simp)]; exact h⟩
def HE.map {α : Type} (P : Program) (kt : TypeId) (K : Kn α) (m : GM α) : HE where
  ids := []
  sem := fun _ b S w => MapS P kt K S w b m
  move := fun h hA hS hb _ => h.move hA hS hb
/-- A box that holds a map's number. -/
def HE.boxm (e : TypeId) (id : Nat) : HE where
  ids := [id]
  sem := fun θ b _ w => w.heap[b]? = some (.cells #[.map (some (θ id))] e (0, 0))
  move := by rintro θ θ' b S S' w w' h _ _ hb hi; rw [hi id (by simp)]; exact hb.trans h
theorem plain_mp {agg : Bool} {id : Nat} : Plain (VA.mp agg id) := fun {θ S ob w v} h => h.1
/-- How a type's map reads: its key and element. -/
structure MT {α : Type} (P : Program) (t kt : TypeId) (K : Kn α) (z : α) : Prop where
  u : ∃ e, P.underlying t = some (.map kt e) ∧ TK P e K ∧ ∃ cs, (P.info? e).bind (·.zero) = some (K.mk_ cs) ∧ ∀ S w, K.R S w z cs
  k : P.underlying kt = some .string
theorem MT.zero {α : Type} {P : Program} {t kt : TypeId} {K : Kn α} {z : α} (hM : MT P t kt K z) : ∃ e cs, P.underlying t = some (.map kt e) ∧ (∀ w, (zeroValue e).run P w = .ok (K.mk_ cs) w) ∧ ∀ S w, K.R S w z cs := by
  obtain ⟨e, hu, _, cs, hz, hr⟩ := hM.u
  refine ⟨e, cs, hu, fun w => ?_, hr⟩
  cases hi : P.info? e with
  | none => rw [hi] at hz; cases hz
  | some i =>
    rw [hi] at hz
    have hz' : i.zero = some (K.mk_ cs) := hz
    simp [zeroValue, typeInfo, hi, hz', Sem.run_bind]
theorem MapS.get {α : Type} {P : Program} {t kt : TypeId} {K : Kn α} {z r : α} (hM : MT P t kt K z) {S : Blk} {w : World} {b : Nat} {m : GM α} (h : MapS P kt K S w b m) {s : ByteArray} (hr : gget m z s = some r) :
    ∃ cs, (Instr.lookup t (.map (some b)) (.string s) false).run P w = .ok (K.mk_ cs) w ∧ K.R S w r cs := by
  obtain ⟨f, h1, h2⟩ := h
  obtain ⟨e, cz, hu, hz2, hz1⟩ := hM.zero
  unfold gget at hr
  split at hr
  · rename_i hs
    have hl := h1.look (string_keyed hM.k) hu (hz2 w) (keyOf_string_mk hM.k hs)
    rw [show (Lit.string s.data.toList) = sk s from rfl] at hl
    have := h2 s
    split at this
    · rename_i hg
      rw [hg] at hr
      cases hr
      rw [this] at hl
      exact ⟨cz, hl, hz1 _ _⟩
    · rename_i x hg
      rw [hg] at hr
      cases hr
      obtain ⟨cs, h3, h4⟩ := this
      rw [h4] at hl
      exact ⟨cs, hl, h3⟩
  · cases hr
theorem MapS.put {α : Type} {P : Program} {t kt : TypeId} {K : Kn α} {z x : α} (hM : MT P t kt K z) {S : Blk} {w : World} {b : Nat} {m r : GM α} (h : MapS P kt K S w b m) {s : ByteArray} (hr : gput m s x = some r) {cs : List Value} (hx : K.R S w x cs) (hb : ¬ S b) :
    ∃ w', (Instr.mapUpdate t (.map (some b)) (.string s) (K.mk_ cs)).run P w = .ok () w' ∧ MapS P kt K S w' b r ∧ w.mapTurned w' b := by
  obtain ⟨f, h1, h2⟩ := h
  obtain ⟨e, hu, _, _⟩ := hM.u
  unfold gput at hr
  split at hr
  · rename_i hs
    cases hr
    obtain ⟨w', hrun, h3, h4⟩ := h1.put (string_keyed hM.k) hu hs.1 (keyOf_string_mk hM.k hs.2) (val := K.mk_ cs)
    have hag : Agree S w w' := fun b' hb' => by
      obtain ⟨es, clock, es', clock', _, rfl⟩ := h4
      have hne : b ≠ b' := fun e => hb (e ▸ hb')
      show (w.heap.setIfInBounds b (.map es' clock'))[b']? = w.heap[b']?
      rw [Array.getElem?_setIfInBounds, if_neg hne]
    refine ⟨w', hrun, ⟨_, h3, fun q => ?_⟩, h4⟩
    rw [show (Lit.string s.data.toList) = sk s from rfl]
    unfold upd
    by_cases e : q = s
    · subst e
      simp only [if_true, sk_same, decide_true]
      exact ⟨cs, K.move hx hag (fun b hb => hb), rfl⟩
    · simp only [if_neg e, sk_same, decide_eq_false e, Bool.false_eq_true, if_false]
      have := h2 q
      split at this
      · exact this
      · obtain ⟨c, h5, h6⟩ := this
        exact ⟨c, K.move h5 hag (fun b hb => hb), h6⟩
  · cases hr
end Go.Proofs.Ytedgkcdofiildaa.Sl
/- Maps in a frame: made, read, written, kept in boxes; closures over what is only read. -/
set_option linter.unusedVariables false
set_option linter.unusedSimpArgs false
set_option linter.unnecessarySimpa false
set_option linter.deprecated false
namespace Go.Proofs.Ytedgkcdofiildaa.Sl
open Go Go.RowKit Go.WideMaps Go.Maps
section
variable {P : Program} {n d : Nat} {ty t t' : TypeId} {pos : String} {af : Array Edge} {g : Option (Nat × Bool)} {N : Ent → Prop}
theorem op_makeMap {α : Type} (kt : TypeId) (K : Kn α) (id : Nat) (hd : Nat.blt d n = true) : OpSpec P n ⟨some d, .makeMap t none, ty, pos, af, g⟩ N [Ent.t d (VA.mp false id), Ent.h id (HE.map P kt K gempty), Ent.bind id] := by
  rintro c Γ a w Q rfl hN ⟨h1, h2, h3, θ, S, h4, h5⟩
  have hrun : (execOp a.eval ⟨some d, .makeMap t none, ty, pos, af, g⟩).run P w = .ok (.value (.map (some w.heap.size))) (w.alloc (.map #[] 0)) := by
    simp [execOp, Instr.makeMap, newObj, Sem.run_bind, Sem.run_pure, Result.andThen_ok]
    rfl
  unfold Oper.wp
  rw [hrun]
  refine inv_new hd h1 h2 h3 h4 h5 _ (fun θ' h => ⟨rfl, by rw [h]; rfl⟩) (fun θ' _ _ => ⟨_, VMap.made P kt w, fun s => rfl⟩)
theorem op_lookup {α : Type} {kt : TypeId} {K : Kn α} {z r : α} {m : GM α} {s : ByteArray} {id : Nat} {o x : Operand} (hd : Nat.blt d n = true) (hM : MT P t kt K z) (hr : gget m z s = some r) (ho : Arg N o (VA.mp false id)) (hm : N (Ent.h id (HE.map P kt K m))) (hx : Arg N x (VA.k kstr s)) :
    OpSpec P n ⟨some d, .lookup t o x false, ty, pos, af, g⟩ N [Ent.t d (VA.k K r)] := op_pure hd fun θ S act w hN => by
  obtain ⟨_, _, e1⟩ := ho θ S act w hN
  obtain ⟨_, hx'⟩ := hx θ S act w hN
  obtain ⟨_, _, hmap⟩ := hN _ hm
  have e2 := k_str hx'
  obtain ⟨cs, hrun, hk⟩ := hmap.get hM hr
  refine ⟨K.mk_ cs, ?_, rfl, cs, hk, rfl⟩
  have e1' : act.eval o = .map (some (θ id)) := e1
  clear hN ho hx hx' e1
  generalize act.eval = ρ at *
  simp [execOp, e1', e2, hrun, Sem.run_bind, Sem.run_pure, Result.andThen_ok]
theorem op_lookup_k {α : Type} {kt : TypeId} {K : Kn α} {z r : α} {m : GM α} {s : ByteArray} {o x : Operand} (hd : Nat.blt d n = true) (hM : MT P t kt K z) (hr : gget m z s = some r) (ho : Arg N o (VA.k (kmap P kt K) m)) (hx : Arg N x (VA.k kstr s)) :
    OpSpec P n ⟨some d, .lookup t o x false, ty, pos, af, g⟩ N [Ent.t d (VA.k K r)] := op_pure hd fun θ S act w hN => by
  obtain ⟨_, _, cs0, ⟨b, rfl, _, hmap⟩, e1⟩ := ho θ S act w hN
  obtain ⟨_, hx'⟩ := hx θ S act w hN
  have e2 := k_str hx'
  obtain ⟨cs, hrun, hk⟩ := hmap.get hM hr
  refine ⟨K.mk_ cs, ?_, rfl, cs, hk, rfl⟩
  have e1' : act.eval o = .map (some b) := e1
  clear hN ho hx hx' e1
  generalize act.eval = ρ at *
  simp [execOp, e1', e2, hrun, Sem.run_bind, Sem.run_pure, Result.andThen_ok]
/-- A block that a map's number names has turned. -/
theorem inv_map {c : Ctx} {Γ : List Ent} {a : Act} {w w' : World} {id : Nat} {H : HE} {θ : Nat → Nat} {S : Blk} {H0 : HE} (h1 : a.defers = c.df) (h2 : a.tmps.size = c.n ∧ c.n ≤ 1000000) (h3 : Fr c.X c.w0 w) (h4 : SOk c S w) (hfree : free c S w (θ id))
    (h6 : sat θ S a w [(Ent.h id H0).key] Γ (fun b => free c S w b ∧ some (θ id) ≠ some b)) (ht : w.mapTurned w' (θ id)) (hH : H.sem θ (θ id) S w') : Inv c ([Ent.h id H] ++ Γ) a w' := by
  obtain ⟨es, clock, es', clock', hb, rfl⟩ := ht
  have hsz : (ChangeMaps.setBlock w (θ id) (.map es' clock')).heap.size = w.heap.size := by simp [ChangeMaps.setBlock]
  have hne : ∀ b, b ≠ θ id → (ChangeMaps.setBlock w (θ id) (.map es' clock')).heap[b]? = w.heap[b]? := fun b hb => by
    show (w.heap.setIfInBounds (θ id) (.map es' clock'))[b]? = w.heap[b]?
    rw [Array.getElem?_setIfInBounds, if_neg (fun e => hb e.symm)]
  have hag : Agree S w (ChangeMaps.setBlock w (θ id) (.map es' clock')) := fun b hs => hne b (fun e => hfree.1 (e ▸ hs))
  refine ⟨h1, h2, ⟨h3.os, h3.tape, h3.output, by rw [hsz]; exact h3.size, fun k hk hx => (hne k (fun e => ?_)).trans (h3.block k hk hx)⟩, θ, S, h4.grow (by rw [hsz]; exact Nat.le_refl _), ?_⟩
  · rcases hfree.2.2 with h | h
    · rw [← e] at h; omega
    · exact hx (e ▸ h)
  · refine sat_consB (b := θ id) (dead_nil _) ⟨rfl, hH⟩ ⟨hfree.1, by rw [hsz]; exact hfree.2.1, hfree.2.2⟩ ?_
    refine sat_mono (sat_move h6 hag (fun b hb => hb) (fun b hb => hne b (fun e => hb.2 (by rw [e]))) (fun t _ => rfl) (fun k _ => rfl)) (fun k hk => hk) (fun b hb => ⟨⟨hb.1.1, by rw [hsz]; exact hb.1.2.1, hb.1.2.2⟩, fun e => hb.2 (by rw [e])⟩)
theorem op_mapUpdate {α : Type} {kt : TypeId} {K : Kn α} {z v : α} {m r : GM α} {s : ByteArray} {id : Nat} {o x y : Operand} (hM : MT P t kt K z) (hr : gput m s v = some r) (ho : Arg N o (VA.mp false id)) (hm : N (Ent.h id (HE.map P kt K m))) (hx : Arg N x (VA.k kstr s)) (hy : Arg N y (VA.k K v)) :
    OpSpec P n ⟨none, .mapUpdate t o x y, ty, pos, af, g⟩ N [Ent.h id (HE.map P kt K r)] := by
  rintro c Γ a w Q rfl hN ⟨h1, h2, h3, θ, S, h4, h5⟩
  have hN2 := sems hN h5
  obtain ⟨_, _, e1⟩ := ho θ S a w hN2
  obtain ⟨_, hx'⟩ := hx θ S a w hN2
  obtain ⟨_, _, cs, hk, e3⟩ := hy θ S a w hN2
  obtain ⟨ob, ⟨rfl, hmap⟩, hav, h6⟩ := sat_take (hN _ hm) h5
  have hfree := hav _ rfl
  have e2 := k_str hx'
  have hmap' : MapS P kt K S w (θ id) m := hmap
  obtain ⟨w', hrun, hm', ht⟩ := hmap'.put hM hr hk hfree.1
  have e1' : a.eval o = .map (some (θ id)) := e1
  have hrun' : (execOp a.eval ⟨none, .mapUpdate t o x y, ty, pos, af, g⟩).run P w = .ok .skip w' := by
    clear hN hN2 ho hx hx' hy e1 h1 h2 h5 h6
    generalize a.eval = ρ at *
    simp [execOp, e1', e2, e3, hrun, Sem.run_bind, Sem.run_pure, Result.andThen_ok]
  unfold Oper.wp
  rw [hrun']
  exact inv_map h1 h2 h3 h4 hfree h6 ht hm'
/-- A struct of one field, a map. -/
theorem op_build_mp {id : Nat} {o : Operand} (hd : Nat.blt d n = true) (hb : ∀ b, P.built t [(0, .map (some b))] = some #[.map (some b)]) (ho : Arg N o (VA.mp false id)) : OpSpec P n ⟨some d, .build t #[(0, o)], ty, pos, af, g⟩ N [Ent.t d (VA.mp true id)] := op_pure hd fun θ S act w hN => by
  obtain ⟨_, _, e1⟩ := ho θ S act w hN
  have e1' : act.eval o = .map (some (θ id)) := e1
  have hrun := run_build (P := P) w t #[(0, .map (some (θ id)))] #[.map (some (θ id))] (hb _)
  refine ⟨.agg #[.map (some (θ id))], ?_, rfl, rfl⟩
  clear hN ho e1
  generalize act.eval = ρ at *
  simp [execOp, e1', hrun, Sem.run_bind, Sem.run_pure, Result.andThen_ok]
/-- A box, or a slot of one, that holds nothing of note. -/
def HE.raw (e sz : Nat) : HE where
  ids := []
  sem := fun _ b _ w => ∃ cs, w.heap[b]? = some (.cells cs e (0, 0)) ∧ cs.size = sz
  move := by rintro θ θ' b S S' w w' ⟨cs, h1, h2⟩ _ _ hb _; exact ⟨cs, hb.trans h1, h2⟩
theorem op_alloc_raw {sz : Nat} {v : Value} (id : Nat) (hd : Nat.blt d n = true) (hz : (P.info? t).bind (·.zero) = some v) (hs : v.cells.size = sz) :
    OpSpec P n ⟨some d, .alloc t, ty, pos, af, g⟩ N [Ent.t d (VA.ptr id 0), Ent.h id (HE.raw t sz), Ent.bind id] := by
  rintro c Γ a w Q rfl hN ⟨h1, h2, h3, θ, S, h4, h5⟩
  have hv : (zeroValue t).run P w = .ok v w := by
    cases hi : P.info? t with
    | none => rw [hi] at hz; cases hz
    | some i =>
      rw [hi] at hz
      have hz' : i.zero = some v := hz
      simp [zeroValue, typeInfo, hi, hz', Sem.run_bind]
  have hrun : (execOp a.eval ⟨some d, .alloc t, ty, pos, af, g⟩).run P w = .ok (.value (.pointer (some ⟨w.heap.size, 0, none⟩))) (w.alloc (.cells v.cells t)) := by
    simp [execOp, Instr.alloc, newVar, newRow, newObj, hv, Sem.run_bind, Sem.run_pure, Result.andThen_ok]
    rfl
  unfold Oper.wp
  rw [hrun]
  exact inv_box hd h1 h2 h3 h4 h5 _ (fun θ' h => ⟨rfl, by rw [h]⟩) (fun θ' _ _ => ⟨_, heap_alloc_new w _, hs⟩)
/-- How a type that holds a map loads and stores: agg, or one cell. -/
structure MZ (P : Program) (t : TypeId) (agg : Bool) : Prop where
  agg : ∀ w, (isAgg t).run P w = .ok agg w
  size : ∀ w, (sizeOf t).run P w = .ok 1 w
theorem mz_of {t : TypeId} {agg : Bool} {dd : TypeDesc} (h : P.underlying t = some dd) (ha : aggD dd = agg) (hs : P.cellsOf t = 1) : MZ P t agg where
  agg := fun w => by
    unfold isAgg
    rw [Sem.run_bind, run_underlying h, Result.andThen_ok, ← ha]
    cases dd <;> rfl
  size := fun w => by
    unfold Program.cellsOf at hs
    cases hi : P.info? t with
    | none => rw [hi] at hs; cases hs
    | some i =>
      rw [hi] at hs
      have hs' : i.size = 1 := hs
      simp [sizeOf, typeInfo, hi, hs', Sem.run_bind]
theorem op_store_mp {id idm : Nat} {agg : Bool} {e : TypeId} {o z : Operand} {H : HE} (hZ : MZ P t agg) (hH : H = HE.raw e 1 ∨ ∃ q, H = HE.boxm e q) (hp : Arg N o (VA.ptr id 0)) (hb : N (Ent.h id H)) (hz : Arg N z (VA.mp agg idm)) :
    OpSpec P n ⟨none, .store t o z, ty, pos, af, g⟩ N [Ent.h id (HE.boxm e idm)] := by
  rintro c Γ a w Q rfl hN ⟨h1, h2, h3, θ, S, h4, h5⟩
  have hN2 := sems hN h5
  obtain ⟨_, _, e1⟩ := hp θ S a w hN2
  obtain ⟨_, _, e2⟩ := hz θ S a w hN2
  obtain ⟨ob, ⟨rfl, hsem⟩, hav, h6⟩ := sat_take (hN _ hb) h5
  have hfree := hav _ rfl
  obtain ⟨cs, hc, hcl⟩ : ∃ cs, w.heap[θ id]? = some (.cells cs e (0, 0)) ∧ cs.size = 1 := by
    rcases hH with rfl | ⟨q, rfl⟩
    · exact hsem
    · exact ⟨_, hsem, rfl⟩
  have hvc : (a.eval z).cells = #[.map (some (θ idm))] := by rw [e2]; unfold wrapM; cases agg <;> rfl
  have hst := run_storeCells_at (P := P) (θ id) 0 e [.map (some (θ idm))] 0 cs w hc (by simp [hcl]) (fun v hv => by rw [List.mem_singleton.1 hv]; rfl)
  have hnew : (cs.toList.take (0 + 0) ++ [Value.map (some (θ idm))] ++ cs.toList.drop (0 + 0 + [Value.map (some (θ idm))].length)).toArray = #[.map (some (θ idm))] := by
    rw [List.drop_of_length_le (by simp [hcl])]; simp
  rw [hnew] at hst
  have hrun : (execOp a.eval ⟨none, .store t o z, ty, pos, af, g⟩).run P w = .ok .skip (w.setRow (θ id) #[.map (some (θ idm))]) := by
    have hs1 := hZ.size w
    clear hN hN2 hp hz h1 h2 h5 h6 e2
    generalize a.eval = ρ at *
    simp [execOp, Instr.storeAt, Instr.sureAddr, e1, storeVar, hvc, hs1, hst, Sem.run_bind, Sem.run_pure, Result.andThen_ok]
  unfold Oper.wp
  rw [hrun]
  have hne : ∀ b, S b → b ≠ θ id := fun b hs e => hfree.1 (e ▸ hs)
  have hag : Agree S w (w.setRow (θ id) #[.map (some (θ idm))]) := fun b hs => setRow_ne _ _ _ _ (hne b hs)
  show Inv c _ (a.put none undef) _
  refine ⟨h1, h2, h3.setRow hfree.2.2 _, θ, S, h4.grow (by rw [setRow_size]; exact Nat.le_refl _), ?_⟩
  refine sat_consB (b := θ id) (dead_nil _) ?_ ⟨hfree.1, by rw [setRow_size]; exact hfree.2.1, hfree.2.2⟩ ?_
  · exact ⟨rfl, setRow_heap w _ _ _ e (0, 0) hc⟩
  · refine sat_mono (sat_move h6 hag (fun b hb => hb) (fun b hb => setRow_ne _ _ _ _ (fun e => hb.2 (by rw [e]))) (fun t _ => rfl) (fun k _ => rfl)) (fun k hk => hk) (fun b hb => ⟨⟨hb.1.1, by rw [setRow_size]; exact hb.1.2.1, hb.1.2.2⟩, fun e => hb.2 (by rw [e])⟩)
theorem op_load_mp {id idm : Nat} {agg : Bool} {e : TypeId} {o : Operand} (hd : Nat.blt d n = true) (hZ : MZ P t agg) (hp : Arg N o (VA.ptr id 0)) (hb : N (Ent.h id (HE.boxm e idm))) : OpSpec P n ⟨some d, .load t o, ty, pos, af, g⟩ N [Ent.t d (VA.mp agg idm)] := op_pure hd fun θ S act w hN => by
  obtain ⟨_, _, e1⟩ := hp θ S act w hN
  obtain ⟨_, _, hc⟩ := hN _ hb
  have hcell : w.cell? ⟨θ id, 0, none⟩ = some (.map (some (θ idm))) := by rw [cell_of_row w _ 0 _ e (0, 0) hc]; rfl
  refine ⟨wrapM agg (.map (some (θ idm))), ?_, rfl, rfl⟩
  have ha := hZ.agg w
  have hs := hZ.size w
  have hl : (loadVar t ⟨θ id, 0, none⟩).run P w = .ok (wrapM agg (.map (some (θ idm)))) w := by
    unfold loadVar wrapM
    cases agg with
    | true =>
      have := run_loadCells_list (P := P) w ⟨θ id, 0, none⟩ [.map (some (θ idm))] (fun j v hv => by
        cases j with
        | zero => cases hv; rw [show (⟨θ id, 0, none⟩ : Addr).add 0 = ⟨θ id, 0, none⟩ by simp [Addr.add]]; exact hcell
        | succ j => simp at hv)
      simp only [List.length_singleton] at this
      simp [Sem.run_bind, ha, hs, this]
    | false => simp [Sem.run_bind, ha, run_load, hcell]
  clear hN hp
  generalize act.eval = ρ at *
  simp [execOp, Instr.loadAt, Instr.sureAddr, e1, hl, Sem.run_bind, Sem.run_pure, Result.andThen_ok]
theorem op_box_mp {idm : Nat} {agg : Bool} {e : TypeId} {o : Operand} (id : Nat) (hd : Nat.blt d n = true) (hne : Nat.beq idm id = false) (hx : Arg N o (VA.mp agg idm)) : OpSpec P n ⟨some d, .box e o, ty, pos, af, g⟩ N [Ent.t d (VA.ptr id 0), Ent.h id (HE.boxm e idm), Ent.bind id] := by
  rintro c Γ a w Q rfl hN ⟨h1, h2, h3, θ, S, h4, h5⟩
  obtain ⟨_, _, e1⟩ := hx θ S a w (sems hN h5)
  have hvc : (a.eval o).cells = #[.map (some (θ idm))] := by rw [e1]; unfold wrapM; cases agg <;> rfl
  have hrun : (execOp a.eval ⟨some d, .box e o, ty, pos, af, g⟩).run P w = .ok (.value (.pointer (some ⟨w.heap.size, 0, none⟩))) (w.alloc (.cells #[.map (some (θ idm))] e)) := by
    clear hN hx h1 h2 h5 e1
    generalize a.eval = ρ at *
    simp [execOp, Instr.box, newVar, newRow, newObj, hvc, Sem.run_bind, Sem.run_pure, Result.andThen_ok]
    rfl
  have hn : idm ≠ id := fun e => by rw [e, Nat.beq_refl] at hne; cases hne
  unfold Oper.wp
  rw [hrun]
  exact inv_box hd h1 h2 h3 h4 h5 _ (fun θ' h => ⟨rfl, by rw [h]⟩) (fun θ' _ hk => by
    show (w.alloc _).heap[w.heap.size]? = _
    rw [heap_alloc_new, hk idm hn])
end
/-! ### what a call is lent -/
section
variable {N : Ent → Prop}
theorem ArgB.mp {α : Type} {P : Program} {kt : TypeId} {K : Kn α} {x : Operand} {id : Nat} {m : GM α} (h : Arg N x (VA.mp false id)) (hm : N (Ent.h id (HE.map P kt K m))) : ArgB N x (VA.k (kmap P kt K) m) := fun θ S a w hN hS => by
  have hN2 : ∀ e, N e → ∃ ob, e.sem θ S ob a w := fun e he => by obtain ⟨ob, h, _⟩ := hN e he; exact ⟨ob, h⟩
  obtain ⟨_, _, e1⟩ := h θ S a w hN2
  obtain ⟨_, ⟨rfl, hmap⟩, hlt⟩ := hN _ hm
  refine ⟨rfl, [.map (some (θ id))], ⟨θ id, rfl, hlt _ rfl, ?_⟩, e1⟩
  exact MapS.move hmap (Agree.refl _ _) hS rfl
theorem ArgB.mps {α β : Type} {P : Program} {kt : TypeId} {K : Kn α} {x : Operand} {id : Nat} {m : GM α} {f : β → GM α} {y : β} (h : Arg N x (VA.mp true id)) (hm : N (Ent.h id (HE.map P kt K m))) (hf : f y = m) : ArgB N x (VA.k (kiso (kmap P kt K) f) y) := fun θ S a w hN hS => by
  have hN2 : ∀ e, N e → ∃ ob, e.sem θ S ob a w := fun e he => by obtain ⟨ob, h, _⟩ := hN e he; exact ⟨ob, h⟩
  obtain ⟨_, _, e1⟩ := h θ S a w hN2
  obtain ⟨_, ⟨rfl, hmap⟩, hlt⟩ := hN _ hm
  refine ⟨rfl, [.map (some (θ id))], ?_, e1⟩
  show (kmap P kt K).R _ w (f y) _
  rw [hf]
  exact ⟨θ id, rfl, hlt _ rfl, MapS.move hmap (Agree.refl _ _) hS rfl⟩
/-- A box lent to be read. -/
theorem ArgB.ptk {α β : Type} {K : Kn α} {K' : Kn β} {get : α → β} {set : α → β → α} {e : TypeId} {x : Operand} {id off : Nat} {y : α} (hF : Fld K off K' get set) (h : Arg N x (VA.ptr id off)) (hb : N (Ent.h id (HE.box e K y))) : ArgB N x (VA.pt K' (get y)) := fun θ S a w hN hS => by
  have hN2 : ∀ e, N e → ∃ ob, e.sem θ S ob a w := fun e he => by obtain ⟨ob, h, _⟩ := hN e he; exact ⟨ob, h⟩
  obtain ⟨_, _, e1⟩ := h θ S a w hN2
  obtain ⟨_, ⟨rfl, cs, hc, hr⟩, hlt⟩ := hN _ hb
  have hg := hF.get hr
  refine ⟨rfl, _, e1, hlt _ rfl, _, K'.move hg (Agree.refl _ _) hS, fun i u hu => ?_⟩
  rw [add_add, cell_of_row w (θ id) (off + i) cs e (0, 0) hc]
  rw [List.getElem?_take] at hu
  split at hu
  · rw [List.getElem?_drop] at hu
    simpa using hu
  · cases hu
theorem ArgB.pt {α : Type} {K : Kn α} {x : Operand} {y : α} (h : Arg N x (VA.pt K y)) : ArgB N x (VA.pt K y) := fun θ S a w hN hS => by
  obtain ⟨ob, h1⟩ := h θ S a w (fun e he => by obtain ⟨ob, h, _⟩ := hN e he; exact ⟨ob, h⟩)
  obtain rfl : ob = bk none := h1.1
  exact (VA.pt K y).move h1 (Agree.refl _ _) hS (fun b _ => rfl) (fun k _ => rfl)
/-- A box with a map, lent to be read. -/
theorem ArgB.ptm {α β : Type} {P : Program} {kt : TypeId} {K : Kn α} {x : Operand} {id idm : Nat} {e : TypeId} {m : GM α} {f : β → GM α} {y : β} (h : Arg N x (VA.ptr id 0)) (hb : N (Ent.h id (HE.boxm e idm))) (hm : N (Ent.h idm (HE.map P kt K m))) (hf : f y = m) : ArgB N x (VA.pt (kiso (kmap P kt K) f) y) := fun θ S a w hN hS => by
  have hN2 : ∀ e, N e → ∃ ob, e.sem θ S ob a w := fun e he => by obtain ⟨ob, h, _⟩ := hN e he; exact ⟨ob, h⟩
  obtain ⟨_, _, e1⟩ := h θ S a w hN2
  obtain ⟨_, ⟨rfl, hc⟩, hlt⟩ := hN _ hb
  obtain ⟨_, ⟨rfl, hmap⟩, hlt2⟩ := hN _ hm
  refine ⟨rfl, _, e1, hlt _ rfl, [.map (some (θ idm))], ?_, fun i u hu => ?_⟩
  · show (kmap P kt K).R _ w (f y) _
    rw [hf]
    exact ⟨θ idm, rfl, hlt2 _ rfl, MapS.move hmap (Agree.refl _ _) hS rfl⟩
  · cases i with
    | zero =>
      cases hu
      rw [add_add, cell_of_row w (θ id) _ _ e (0, 0) hc]; rfl
    | succ i => simp at hu
end
/-! ### function values -/
theorem argSat_move {θ θ' : Nat → Nat} {S S' : Blk} {w w' : World} : ∀ {As : List VA} {vs : List Value}, argSat θ S w As vs → Agree S w w' → (∀ b, S b → S' b) → (∀ k, k ∈ As.flatMap (·.ids) → θ' k = θ k) → argSat θ' S' w' As vs
  | [], [], _, _, _, _ => trivial
  | A :: As, v :: vs, h, hA, hS, hi => ⟨A.move h.1 hA hS (fun b hb => by cases hb) (fun k hk => hi k (by simp [hk])), argSat_move h.2 hA hS (fun k hk => hi k (by simp only [List.flatMap_cons, List.mem_append]; exact .inr hk))⟩
  | [], _ :: _, h, _, _, _ => h.elim
  | _ :: _, [], h, _, _, _ => h.elim
/-- Function number F, with what is bound ahead of its arguments and what it has captured. -/
def VA.clo (F : FuncId) (pre caps : List VA) : VA where
  ids := []
  sem := fun θ S ob w v => ob = bk none ∧ (noIds pre = true ∧ noIds caps = true) ∧ ∃ us vs : List Value, v = .func (.func F) us.toArray vs.toArray ∧ argSat θ S w pre us ∧ argSat θ S w caps vs
  move := by rintro θ θ' S S' ob w w' v ⟨h0, hn, us, vs, h1, h2, h3⟩ hA hS _ hi; exact ⟨h0, hn, us, vs, h1, argSat_move h2 hA hS (fun k hk => by obtain ⟨A, hA, hk⟩ := List.mem_flatMap.1 hk; rw [noIds_spec hn.1 A hA] at hk; cases hk), argSat_move h3 hA hS (fun k hk => by obtain ⟨A, hA, hk⟩ := List.mem_flatMap.1 hk; rw [noIds_spec hn.2 A hA] at hk; cases hk)⟩
theorem plain_clo {F : FuncId} {pre caps : List VA} : Plain (VA.clo F pre caps) := fun {θ S ob w v} h => h.1
/-- Slot d holds function F with the bound and captured operands as they stand in their slots. -/
def Ent.mf (d : Nat) (F : FuncId) (ys xs : List Nat) : Ent where
  key := d
  slots := d :: (ys ++ xs)
  ids := []
  sem := fun _ _ ob a _ => ob = bk none ∧ a.tmps.getD d undef = .func (.func F) (ys.map fun s => a.tmps.getD s undef).toArray (xs.map fun s => a.tmps.getD s undef).toArray
  move := by
    rintro θ θ' S S' ob a a' w w' ⟨h0, h⟩ _ _ _ ht _
    refine ⟨h0, ?_⟩
    rw [ht d (by simp), h]
    have e1 : (ys.map fun s => a.tmps.getD s undef) = ys.map fun s => a'.tmps.getD s undef := List.map_congr_left (fun s hs => (ht s (List.mem_cons_of_mem _ (List.mem_append_left _ hs))).symm)
    have e2 : (xs.map fun s => a.tmps.getD s undef) = xs.map fun s => a'.tmps.getD s undef := List.map_congr_left (fun s hs => (ht s (List.mem_cons_of_mem _ (List.mem_append_right _ hs))).symm)
    rw [e1, e2]
section
variable {P : Program} {n d : Nat} {ty t t' : TypeId} {pos : String} {af : Array Edge} {g : Option (Nat × Bool)} {N : Ent → Prop}
theorem op_makeFunc {F : FuncId} {ys xs : List Nat} {os ops : Array Operand} (hd : Nat.blt d n = true) (hy : os = (ys.map Operand.tmp).toArray) (ho : ops = (xs.map Operand.tmp).toArray) (hx : (ys ++ xs).all (fun s => !Nat.beq s d) = true) : OpSpec P n ⟨some d, .makeFunc (.func F) os ops, ty, pos, af, g⟩ N [Ent.mf d F ys xs] := by
  rintro c Γ a w Q rfl hN ⟨h1, h2, h3, θ, S, h4, h5⟩
  subst ho
  subst hy
  have ev : ∀ zs : List Nat, (zs.map Operand.tmp).toArray.map a.eval = (zs.map fun s => a.tmps.getD s undef).toArray := fun zs => by
    simp only [List.map_toArray, List.map_map]
    rfl
  have hrun : (execOp a.eval ⟨some d, .makeFunc (.func F) (ys.map Operand.tmp).toArray (xs.map Operand.tmp).toArray, ty, pos, af, g⟩).run P w = .ok (.value (.func (.func F) (ys.map fun s => a.tmps.getD s undef).toArray (xs.map fun s => a.tmps.getD s undef).toArray)) w := by
    simp only [execOp, Instr.makeFunc, ev, Sem.run_bind, Sem.run_pure, Result.andThen_ok]
  unfold Oper.wp
  rw [hrun]
  have hdn := blt_lt hd
  have hne : ∀ s, s ∈ ys ++ xs → s ≠ d := fun s hs e => by
    have := List.all_eq_true.1 hx s hs
    rw [e, Nat.beq_refl] at this; cases this
  refine inv_put_e (θ := θ) (S := S) hd rfl h1 h2 h3 h4 h5 rfl ⟨rfl, ?_⟩
  rw [put_getD_self (by omega)]
  have e1 : (ys.map fun s => a.tmps.getD s undef) = ys.map fun s => (a.put (some d) (.func (.func F) (ys.map fun s => a.tmps.getD s undef).toArray (xs.map fun s => a.tmps.getD s undef).toArray)).tmps.getD s undef := List.map_congr_left (fun s hs => (put_getD_ne (hne s (List.mem_append_left _ hs))).symm)
  have e2 : (xs.map fun s => a.tmps.getD s undef) = xs.map fun s => (a.put (some d) (.func (.func F) (ys.map fun s => a.tmps.getD s undef).toArray (xs.map fun s => a.tmps.getD s undef).toArray)).tmps.getD s undef := List.map_congr_left (fun s hs => (put_getD_ne (hne s (List.mem_append_right _ hs))).symm)
  rw [← e1, ← e2]
theorem ArgB.mf {F : FuncId} {s : Nat} {ys xs : List Nat} {pre caps : List VA} (hn : noIds pre = true) (hm : noIds caps = true) (h : N (Ent.mf s F ys xs)) (hp : Args (ArgB N) (ys.map Operand.tmp) pre) (hc : Args (ArgB N) (xs.map Operand.tmp) caps) : ArgB N (.tmp s) (VA.clo F pre caps) := fun θ S a w hN hS => by
  obtain ⟨_, ⟨_, e⟩, _⟩ := hN _ h
  have h1 := hp.satB hN hS
  have h2 := hc.satB hN hS
  rw [List.map_map] at h1 h2
  exact ⟨rfl, ⟨hn, hm⟩, _, _, e, h1, h2⟩
/-- A function's number alone. -/
theorem ArgB.fn {F : FuncId} : ArgB N (.func F) (VA.clo F [] []) := fun θ S a w hN hS => ⟨rfl, ⟨rfl, rfl⟩, [], [], rfl, trivial, trivial⟩
theorem ArgP.fn {F : FuncId} : ArgP N (.func F) (VA.clo F [] []) := fun θ S a w hN hS => ⟨rfl, ⟨rfl, rfl⟩, [], [], rfl, trivial, trivial⟩
theorem ArgB.clo {F : FuncId} {x : Operand} {pre caps : List VA} (h : Arg N x (VA.clo F pre caps)) : ArgB N x (VA.clo F pre caps) := fun θ S a w hN hS => by
  obtain ⟨ob, h1⟩ := h θ S a w (fun e he => by obtain ⟨ob, h, _⟩ := hN e he; exact ⟨ob, h⟩)
  obtain rfl : ob = bk none := h1.1
  exact (VA.clo F pre caps).move h1 (Agree.refl _ _) hS (fun b _ => rfl) (fun k _ => rfl)
theorem ArgP.clo {F : FuncId} {x : Operand} {pre caps : List VA} (h : Arg N x (VA.clo F pre caps)) : ArgP N x (VA.clo F pre caps) := ArgP.a plain_clo h
theorem argSat_app {θ : Nat → Nat} {S : Blk} {w : World} : ∀ {As Bs : List VA} {us vs : List Value}, argSat θ S w As us → argSat θ S w Bs vs → argSat θ S w (As ++ Bs) (us ++ vs)
  | [], _, [], _, _, h => h
  | _ :: _, _, _ :: _, _, h, h' => ⟨h.1, argSat_app h.2 h'⟩
  | [], _, _ :: _, _, h, _ => h.elim
  | _ :: _, _, [], _, h, _ => h.elim
theorem run_callv_op {dst : Option Tmp} {ρ : Operand → Value} {f : FuncId} {o : Operand} {us vs : List Value} {xs : List Operand} {at_ : Array TypeId} {w : World} (hf : Enters P f) (hρ : ρ o = .func (.func f) us.toArray vs.toArray) :
    (execOp ρ ⟨dst, .call { callee := .value o, args := xs.toArray, argTypes := at_ }, ty, pos, af, g⟩).run P w = .ok (.enter f (us ++ (xs.map ρ ++ vs)).toArray) w := by
  have := hf (us ++ (xs.map ρ ++ vs)).toArray w
  simp [execOp, resolve, invoke, Deferred.ofValue, hρ, Sem.run_bind, Sem.run_pure, Result.andThen_ok, this]
/-- A call of a function value that came in. -/
theorem op_callv {f : FuncId} {pre caps : List VA} {o : Operand} {xs : List Operand} {at_ : Array TypeId} {As : List VA} {A : VA} (hd : Nat.blt d n = true) (ho : Arg N o (VA.clo f pre caps)) (hf : Enters P f) (hC : Con P f (pre ++ (As ++ caps)) [A]) (hids : noIds [A] = true) (hx : Args (ArgP N) xs As) :
    OpSpec P n ⟨some d, .call { callee := .value o, args := xs.toArray, argTypes := at_ }, ty, pos, af, g⟩ N [Ent.t d A] := by
  rintro c Γ a w Q rfl hN ⟨h1, h2, h3, θ, S, h4, h5⟩
  obtain ⟨_, _, _, us, vs, e, hpre, hcap⟩ := ho θ S a w (sems hN h5)
  unfold Oper.wp
  rw [run_callv_op hf e]
  refine (hC θ S w _ (fun b hb => (h4 b hb).1) (argSat_app hpre (argSat_app (hx.sat (sems hN h5) (fun b hb => (h4 b hb).1)) hcap))).mono ?_
  rintro e w' ⟨rs, S', rfl, hfr, hS', hr⟩
  exact (inv_call hd (noIds_spec hids) h1 h2 h3 h4 h5 hfr hS' hr).1 A rfl
end
end Go.Proofs.Ytedgkcdofiildaa.Sl
