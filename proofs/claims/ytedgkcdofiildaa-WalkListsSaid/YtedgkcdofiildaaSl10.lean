/- Entering a function, leaving it; cuts; loops. -/
import Derived.Test.YtedgkcdofiildaaSl9
set_option linter.unusedVariables false
set_option linter.unusedSimpArgs false
namespace Go.Proofs.Ytedgkcdofiildaa.Sl
open Go Go.RowKit
def argEnts : List VA → Nat → List Ent
  | [], _ => []
  | A :: As, j => Ent.t j A :: argEnts As (j + 1)
theorem argSat_len {θ : Nat → Nat} {S : Blk} {w : World} : ∀ {As : List VA} {vs : List Value}, argSat θ S w As vs → vs.length = As.length
  | [], [], _ => rfl
  | _ :: _, _ :: _, h => by simp [argSat_len h.2]
  | [], _ :: _, h => h.elim
  | _ :: _, [], h => h.elim
theorem arg_sat {θ : Nat → Nat} {S : Blk} {a : Act} {w : World} : ∀ {As : List VA} {vs : List Value} {j : Nat} {ks : List Nat} {av : Blk}, argSat θ S w As vs → (∀ i v, vs[i]? = some v → a.tmps.getD (j + i) undef = v) → (∀ k, k ∈ ks → k < j) → j + As.length ≤ 1000000 → sat θ S a w ks (argEnts As j) av
  | [], [], _, _, _, _, _, _, _ => trivial
  | A :: As, v :: vs, j, ks, av, h, hv, hk, hj => by
    simp only [List.length_cons] at hj
    refine sat_consK (dead_iff (fun k hk' => ?_)) ?_ (arg_sat h.2 (fun i v hi => by have := hv (i + 1) v hi; rw [← this]; congr 1; omega) (fun k hk' => ?_) (by omega))
    · have := hk k hk'
      simp only [Ent.deps, Ent.t, List.mem_cons, List.mem_append, List.mem_map, List.not_mem_nil, or_false]
      rintro (h | h | ⟨x, _, h⟩) <;> omega
    · show A.sem θ S none w (a.tmps.getD j undef)
      rw [show a.tmps.getD j undef = v from hv 0 v rfl]; exact h.1
    · rcases List.mem_cons.1 hk' with e | hk'
      · rw [e]; exact Nat.lt_succ_self j
      · have := hk k hk'; omega
/-- What a call has come to. -/
def CPost (w0 : World) (S0 : Blk) (θ : Nat → Nat) (res : List VA) (e : Ending) (w' : World) : Prop :=
  ∃ (rs : List Value) (S' : Blk), e = .returned (tup rs) ∧ Fr [] w0 w' ∧ (∀ b, S' b → since w0 w' b) ∧ resSat θ (fun b => S0 b ∨ S' b) w' res rs (fun b => since w0 w' b ∧ ¬ S' b)
theorem con_enter {P : Program} {f : FuncId} {fn : Func} {body : Code} {As res : List VA} (hf : P.funcs[f]? = some fn) (hb : fn.body = some body) (hn : Nat.ble As.length fn.ntmps = true) (hm : Nat.ble fn.ntmps 1000000 = true)
    (h : ∀ w0 S0 θ, Goes P ⟨w0, S0, [], fn.ntmps⟩ (argEnts As 0) body (bodyPost P fn (CPost w0 S0 θ res))) : Con P f As res := fun θ S w vs hS ha => by
  refine calls_of_wp hf hb (h w S θ _ w ?_)
  have hl := argSat_len ha
  have hn' := Nat.le_of_ble_eq_true hn
  have hm' := Nat.le_of_ble_eq_true hm
  refine ⟨rfl, ⟨by simp [hl]; omega, hm'⟩, Fr.refl _ _, θ, S, fun b hb => ⟨hS b hb, .inl hb⟩, arg_sat ha (fun i v hi => ?_) (fun k hk => by cases hk) (by omega)⟩
  have hlt := (List.getElem?_eq_some_iff.1 hi).1
  simp only [Array.getD_eq_getD_getElem?, Nat.zero_add]
  rw [Array.getElem?_append_left (by simpa using hlt)]
  simp [hi]
theorem resSat_av' {θ : Nat → Nat} {S : Blk} {w : World} {As : List VA} {vs : List Value} {av av' : Blk} (h1 : ∀ b, av b → av' b) (h2 : resSat θ S w As vs av) : resSat θ S w As vs av' := resSat_move (fun b hb => hb) h1 h2
/-- How a result is had out of what is known. -/
def RGet (P : Program) (Γ : List Ent) (ks : List Nat) (key : Nat) (rv : ResultVar) (A : VA) : Prop :=
  ∀ (F : ResultVar → Sem Value) (θ : Nat → Nat) (S : Blk) (a : Act) (w : World) (av0 av : Blk), (∀ t, F (.tmp t) = pure (a.tmps.getD t undef)) → (∀ r t ad, a.tmps.getD r undef = .pointer (some ad) → (F (.cell r t)).run P w = (loadVar t ad).run P w) →
    sat θ S a w [] Γ av0 → sat θ S a w ks Γ av → ∃ v ob, (F rv).run P w = .ok v w ∧ A.sem θ S ob w v ∧ (∀ b, ob = some b → av b) ∧ sat θ S a w (key :: ks) Γ (fun b => av b ∧ ob ≠ some b)
inductive Rets (P : Program) (Γ : List Ent) : List Nat → List ResultVar → List VA → Prop
  | nil (ks : List Nat) : Rets P Γ ks [] []
  | g {ks : List Nat} {key : Nat} {rv : ResultVar} {rs : List ResultVar} {A : VA} {As : List VA} : RGet P Γ ks key rv A → Rets P Γ (key :: ks) rs As → Rets P Γ ks (rv :: rs) (A :: As)
theorem Rets.t {P : Program} {Γ : List Ent} {ks : List Nat} {r : Nat} {rs : List ResultVar} {A : VA} {As : List VA} (h1 : findE ks Γ r = some (Ent.t r A)) (h : Rets P Γ (r :: ks) rs As) : Rets P Γ ks (.tmp r :: rs) (A :: As) := .g (fun F θ S a w av0 av hF hG h0 hs => by
  obtain ⟨ob, g1, g2, g3⟩ := sat_take (has_find h1) hs
  exact ⟨a.tmps.getD r undef, ob, by rw [hF, Sem.run_pure], g1, g2, g3⟩) h
theorem Rets.c {P : Program} {Γ : List Ent} {α : Type} {ks : List Nat} {r id : Nat} {t e : TypeId} {K : Kn α} {x : α} {rs : List ResultVar} {As : List VA} (h1 : findE [] Γ r = some (Ent.t r (VA.ptr id 0))) (h2 : findE [] Γ (2000000 + id) = some (Ent.h id (HE.box e K x))) (hk : TK P t K) (h : Rets P Γ (3999999 :: ks) rs As) : Rets P Γ ks (.cell r t :: rs) (VA.k K x :: As) := .g (fun F θ S a w av0 av hF hG h0 hs => by
  obtain ⟨_, ⟨_, e1⟩, _⟩ := sat_take (has_find h1) h0
  obtain ⟨_, ⟨_, cs, hc, hr⟩, _⟩ := sat_take (has_find h2) h0
  have hl := run_loadVar_at (w := w) (ad := ⟨θ id, 0, none⟩) hk (K.len hr) (fun i u hu => by
    rw [add_add, cell_of_row w (θ id) _ cs _ (0, 0) hc, Nat.zero_add]
    simpa using hu)
  exact ⟨K.mk_ cs.toList, none, by rw [hG r t _ e1, hl], ⟨rfl, _, hr, rfl⟩, fun b hb => (by cases hb), sat_mono hs (fun k hk => List.mem_cons_of_mem _ hk) (fun b hb => ⟨hb, by simp⟩)⟩) h
theorem Rets.sat {P : Program} {Γ : List Ent} {θ : Nat → Nat} {S : Blk} {a : Act} {w : World} {av0 : Blk} (F : ResultVar → Sem Value) (hF : ∀ t, F (.tmp t) = pure (a.tmps.getD t undef)) (hG : ∀ r t ad, a.tmps.getD r undef = .pointer (some ad) → (F (.cell r t)).run P w = (loadVar t ad).run P w) (h0 : sat θ S a w [] Γ av0) {ks : List Nat} {rts : List ResultVar} {res : List VA} (h : Rets P Γ ks rts res) :
    ∀ {av : Blk}, sat θ S a w ks Γ av → ∃ vs, (List.mapM F rts).run P w = .ok vs w ∧ resSat θ S w res vs av := by
  induction h with
  | nil ks => exact fun _ => ⟨[], rfl, trivial⟩
  | @g ks key rv rs A As h1 _ ih =>
    intro av hs
    obtain ⟨v, ob, e1, g1, g2, g3⟩ := h1 F θ S a w av0 av hF hG h0 hs
    obtain ⟨vs, e, hr⟩ := ih g3
    refine ⟨v :: vs, ?_, ob, g1, g2, hr⟩
    rw [List.mapM_cons, Sem.run_bind, e1, Result.andThen_ok, Sem.run_bind, e, Result.andThen_ok, Sem.run_pure]
theorem resSat_θ {θ θ' : Nat → Nat} {S : Blk} {w : World} : ∀ {As : List VA} {vs : List Value} {av : Blk}, (∀ A, A ∈ As → A.ids = []) → resSat θ S w As vs av → resSat θ' S w As vs av
  | [], [], _, _, _ => trivial
  | A :: As, v :: vs, av, hi, h => by
    obtain ⟨ob, h1, h2, h3⟩ := h
    exact ⟨ob, A.move h1 (Agree.refl _ _) (fun b hb => hb) (fun b _ => rfl) (fun k hk => by rw [hi A (by simp)] at hk; cases hk), h2, resSat_θ (fun A hA => hi A (List.mem_cons_of_mem _ hA)) h3⟩
  | [], _ :: _, _, _, h => h.elim
  | _ :: _, [], _, _, h => h.elim
theorem resSat_av {θ : Nat → Nat} {S : Blk} {w : World} : ∀ {As : List VA} {vs : List Value} {av av' : Blk}, (∀ b, av b → av' b) → resSat θ S w As vs av → resSat θ S w As vs av' := fun h1 h2 => resSat_move (fun b hb => hb) h1 h2
section
variable {P : Program} {n : Nat} {w0 : World} {S0 : Blk} {θ : Nat → Nat} {Γ : List Ent} {fn : Func} {res : List VA}
theorem ends_ret (rts : List ResultVar) (hr : fn.results.toList = rts) (hids : ∀ A, A ∈ res → A.ids = []) (h : Rets P Γ [] rts res) : Ends ⟨w0, S0, [], n⟩ Γ (bodyPost P fn (CPost w0 S0 θ res)) .ret := by
  rintro a w ⟨h1, h2, h3, θ', S, h4, h5⟩
  have hres : ∃ vs, (results fn a.tmps).run P w = .ok (tup vs) w ∧ resSat θ' S w res vs (free ⟨w0, S0, [], n⟩ S w) := by
    unfold results
    rw [show fn.results = rts.toArray by rw [← hr], List.mapM_toArray]
    simp only [Sem.run_bind, Sem.run_map]
    obtain ⟨vs, e, hrs⟩ := Rets.sat (P := P) (a := a) (w := w) (fun x : ResultVar => match x with | .tmp t => (pure (a.tmps.getD t undef) : Sem Value) | .cell b t => do loadVar t (← asAddr (a.tmps.getD b undef))) (fun _ => rfl) (fun r t ad h => by simp only [h, asAddr, Sem.run_bind, Sem.run_pure, Result.andThen_ok]) h5 h h5
    refine ⟨vs, ?_, hrs⟩
    have e' := e
    refine Eq.trans (congrArg (fun z : Result (List Value) => ((z.andThen fun v w => .ok v.toArray w).andThen fun a' w' => (pure (if h : a'.size = 1 then a'[0] else Value.tuple a') : Sem Value).run P w')) e') ?_
    simp only [Result.andThen_ok, Sem.run_pure]
    congr 1
    match vs with
    | [] => rfl
    | [r] => rfl
    | r :: r' :: l => simp [tup]
  obtain ⟨vs, hrun, hrs⟩ := hres
  refine ⟨h1, _, hrun, _, (fun b => S b ∧ since w0 w b), rfl, h3, fun b hb => hb.2, ?_⟩
  refine resSat_θ hids (resSat_move (fun b hb => ?_) (fun b hb => ?_) hrs)
  · have := h4 b hb
    rcases this.2 with h | h | h
    · exact .inl h
    · exact .inr ⟨hb, h, this.1⟩
    · cases h
  · obtain ⟨f1, f2, f3⟩ := hb
    refine ⟨⟨?_, f2⟩, fun h => f1 h.1⟩
    rcases f3 with h | h
    · exact h
    · cases h
theorem ends_fall {n : Nat} {R : Ending → World → Prop} {c : Ctx} {Γ : List Ent} {fn : Func} (h : Ends c Γ (bodyPost P fn R) .ret) : Ends c Γ (bodyPost P fn R) .normal := h
end
/-! ### cuts and loops -/
section
variable {P : Program} {c : Ctx} {Γ : List Ent} {Q : Exit → Act → World → Prop}
/-- A piece that comes through. -/
def Cut (c : Ctx) (Γ' : List Ent) : Exit → Act → World → Prop := fun e a w => e = .normal ∧ Inv c Γ' a w
theorem goes_cut {k : Code} (Γ' : List Ent) (hx : Goes P c Γ k (Cut c Γ')) (hn : Ends c Γ' Q .normal) : Goes P c Γ k Q := fun a w hi => wp_mono (hx a w hi) (by rintro e a w ⟨rfl, h⟩; exact hn a w h)
theorem ends_cut {Γ' : List Ent} (h : Told Γ Γ') : Ends c Γ (Cut c Γ') .normal := fun a w hi => ⟨rfl, hi.sub h.sub⟩
/-- A piece that comes through or leaves the function. -/
def CutR {ρ σ : Type} (c : Ctx) (Γ' : σ → List Ent) (RP : ρ → Act → World → Prop) (o : Except ρ σ) : Exit → Act → World → Prop
  | .normal, a, w => ∃ s, o = .ok s ∧ Inv c (Γ' s) a w
  | .ret, a, w => ∃ r, o = .error r ∧ RP r a w
  | _, _, _ => False
theorem goes_cutR {ρ σ : Type} {k : Code} {o : Except ρ σ} (Γ' : σ → List Ent) (RP : ρ → Act → World → Prop) (hx : Goes P c Γ k (CutR c Γ' RP o)) (hn : ∀ s, o = .ok s → Ends c (Γ' s) Q .normal) (hr : ∀ r, o = .error r → ∀ a w, RP r a w → Q .ret a w) : Goes P c Γ k Q := fun a w hi => wp_mono (hx a w hi) (by
  intro e a w h
  cases e with
  | normal => obtain ⟨s, e, h⟩ := h; exact hn s e a w h
  | ret => obtain ⟨r, e, h⟩ := h; exact hr r e a w h
  | exit id => exact h.elim
  | goto l => exact h.elim
  | panic ch => exact h.elim
  | outgrown => exact h.elim)
theorem ends_cutR {ρ σ : Type} {Γ' : σ → List Ent} {RP : ρ → Act → World → Prop} {o : Except ρ σ} {s : σ} (ho : o = .ok s) (h : Told Γ (Γ' s)) : Ends c Γ (CutR c Γ' RP o) .normal := fun a w hi => ⟨s, ho, hi.sub h.sub⟩
theorem ends_cutR_ret {ρ σ : Type} {Γ' : σ → List Ent} {RP : ρ → Act → World → Prop} {o : Except ρ σ} {r : ρ} (ho : o = .error r) (h : ∀ a w, Inv c Γ a w → RP r a w) : Ends c Γ (CutR c Γ' RP o) .ret := fun a w hi => ⟨r, ho, h a w hi⟩
theorem least (p : Nat → Prop) (h : ∃ n, p n) : ∃ n, p n ∧ ∀ m, p m → n ≤ m := by
  obtain ⟨n, hn⟩ := h
  induction n using Nat.strongRecOn with
  | _ n ih =>
    by_cases hm : ∃ m, m < n ∧ p m
    · obtain ⟨m, h1, h2⟩ := hm
      exact ih m h1 h2
    · exact ⟨n, hn, fun m h => Nat.le_of_not_lt fun hlt => hm ⟨m, hlt, h⟩⟩
/-- A loop: l its rounds; what it comes to is fixed. -/
theorem goes_loop {σ τ : Type} {b : Code} {k0 : Nat} {s0 : σ} {r : τ} (Γ' : σ → List Ent) (l : Nat → σ → Option τ) (hz : ∀ s, l 0 s = none) (H : l k0 s0 = some r) (hs : Told Γ (Γ' s0))
    (body : ∀ k s, l (k + 1) s = some r → Goes P c (Γ' s) b (Exit.then (fun a w => ∃ s', l k s' = some r ∧ Inv c (Γ' s') a w) Q)) : Goes P c Γ (.loop b) Q := fun a w hi => by
  classical
  let good : Nat → Act → World → Prop := fun k a w => ∃ s, l k s = some r ∧ Inv c (Γ' s) a w
  let μ : Act → World → Nat := fun a w => if h : ∃ k, good k a w then Classical.choose (least _ h) else 0
  refine wp_loop (fun a w => ∃ k, good k a w) μ ⟨k0, s0, H, hi.sub hs.sub⟩ ?_
  intro a w hI
  have hμ : μ a w = Classical.choose (least _ hI) := dif_pos hI
  obtain ⟨⟨s, hs1, hs2⟩, hmin⟩ := Classical.choose_spec (least _ hI)
  cases hk : Classical.choose (least _ hI) with
  | zero => rw [hk, hz] at hs1; cases hs1
  | succ k =>
    rw [hk] at hs1
    refine wp_mono (body k s hs1 a w hs2) (fun e a' w' h => ?_)
    cases e with
    | normal =>
      obtain ⟨s', h1, h2⟩ := h
      have hI' : ∃ k, good k a' w' := ⟨k, s', h1, h2⟩
      refine ⟨hI', ?_⟩
      have : μ a' w' = Classical.choose (least _ hI') := dif_pos hI'
      rw [this, hμ, hk]
      exact Nat.lt_succ_of_le ((Classical.choose_spec (least _ hI')).2 k ⟨s', h1, h2⟩)
    | ret => exact h
    | exit id => exact h
    | goto l => exact h
    | panic ch => exact h
    | outgrown => exact h
theorem loop_next {σ τ : Type} {Γ' : σ → List Ent} {l : Nat → σ → Option τ} {r : τ} {k : Nat} (s' : σ) (H : l k s' = some r) (h : Told Γ (Γ' s')) : Ends c Γ (Exit.then (fun a w => ∃ s', l k s' = some r ∧ Inv c (Γ' s') a w) Q) .normal := fun a w hi => ⟨s', H, hi.sub h.sub⟩
theorem goes_cond {x y : Code} {o : Operand} {b : Bool} (hc : Arg (Has [] Γ) o (VA.k kbool b)) (ht : b = true → Goes P c Γ x Q) (hf : b = false → Goes P c Γ y Q) : Goes P c Γ (.cond o x y) Q := fun a w hi => by
  obtain ⟨h1, h2, h3, θ, S, h4, h5⟩ := hi
  obtain ⟨_, hb⟩ := hc θ S a w (sems (fun _ h => h) h5)
  exact wp_cond_split (k_bool hb) (fun e => ht e a w ⟨h1, h2, h3, θ, S, h4, h5⟩) (fun e => hf e a w ⟨h1, h2, h3, θ, S, h4, h5⟩)
end
end Go.Proofs.Ytedgkcdofiildaa.Sl
