/- Calls by contract; entering a function, leaving it; loops. -/
import Derived.Test.YtedgkcdofiildaaSl8
set_option linter.unusedVariables false
set_option linter.unusedSimpArgs false
namespace Go.Proofs.Ytedgkcdofiildaa.Sl
open Go Go.RowKit
def ArgP (N : Ent → Prop) (x : Operand) (A : VA) : Prop := ∀ (θ : Nat → Nat) (S : Blk) (a : Act) (w : World), (∀ e, N e → ∃ ob, e.sem θ S ob a w) → (∀ b, S b → b < w.heap.size) → A.sem θ S none w (a.eval x)
def ArgB (N : Ent → Prop) (x : Operand) (A : VA) : Prop := ∀ (θ : Nat → Nat) (S : Blk) (a : Act) (w : World), (∀ e, N e → ∃ ob, e.sem θ S ob a w ∧ ∀ b, ob = some b → b < w.heap.size) → (∀ b, S b → b < w.heap.size) → A.sem θ (fun b => b < w.heap.size) none w (a.eval x)
theorem ArgP.k {α : Type} {N : Ent → Prop} {x : Operand} {K : Kn α} {y : α} (h : Arg N x (VA.k K y)) : ArgP N x (VA.k K y) := fun θ S a w hN _ => by
  obtain ⟨ob, h1⟩ := h θ S a w hN
  exact ⟨rfl, h1.2⟩
theorem ArgP.a {N : Ent → Prop} {x : Operand} {A : VA} (hp : Plain A) (h : Arg N x A) : ArgP N x A := fun θ S a w hN _ => by
  obtain ⟨ob, h1⟩ := h θ S a w hN
  obtain rfl := hp h1
  exact h1
theorem ArgB.k {α : Type} {N : Ent → Prop} {x : Operand} {K : Kn α} {y : α} (h : Arg N x (VA.k K y)) : ArgB N x (VA.k K y) := fun θ S a w hN hS => by
  obtain ⟨ob, h1⟩ := h θ S a w (fun e he => by obtain ⟨ob, h, _⟩ := hN e he; exact ⟨ob, h⟩)
  exact (VA.k K y).move ⟨rfl, h1.2⟩ (Agree.refl _ _) hS (fun b _ => rfl) (fun k _ => rfl)
theorem ArgB.own {α : Type} {N : Ent → Prop} {s : Nat} {e : TypeId} {K : Kn α} {y : List α} (hp : Nat.blt 0 K.sz = true) (h : N (Ent.t s (VA.own e K y))) : ArgB N (.tmp s) (VA.k (kslice K) y) := fun θ S a w hN hS => by
  obtain ⟨ob, h1, hb⟩ := hN _ h
  exact own_reads (θ := θ) h1 hS hb (blt_lt hp)
theorem ArgB.owns {α : Type} {N : Ent → Prop} {d s : Nat} {e : TypeId} {K : Kn α} {y : List α} (hp : Nat.blt 0 K.sz = true) (h0 : N (Ent.same d s)) (h : N (Ent.t s (VA.own e K y))) : ArgB N (.tmp d) (VA.k (kslice K) y) := fun θ S a w hN hS => by
  have := ArgB.own hp h θ S a w hN hS
  obtain ⟨_, ⟨_, e0⟩, _⟩ := hN _ h0
  show (VA.k (kslice K) y).sem θ _ none w (a.tmps.getD d undef)
  rw [e0]; exact this
inductive Args (T : Operand → VA → Prop) : List Operand → List VA → Prop
  | nil : Args T [] []
  | cons {x : Operand} {A : VA} {xs : List Operand} {As : List VA} : T x A → Args T xs As → Args T (x :: xs) (A :: As)
theorem Args.sat {N : Ent → Prop} {xs : List Operand} {As : List VA} (h : Args (ArgP N) xs As) {θ : Nat → Nat} {S : Blk} {a : Act} {w : World} (hN : ∀ e, N e → ∃ ob, e.sem θ S ob a w) (hS : ∀ b, S b → b < w.heap.size) : argSat θ S w As (xs.map a.eval) := by
  induction h with
  | nil => trivial
  | cons h _ ih => exact ⟨h θ S a w hN hS, ih⟩
theorem Args.satB {N : Ent → Prop} {xs : List Operand} {As : List VA} (h : Args (ArgB N) xs As) {θ : Nat → Nat} {S : Blk} {a : Act} {w : World} (hN : ∀ e, N e → ∃ ob, e.sem θ S ob a w ∧ ∀ b, ob = some b → b < w.heap.size) (hS : ∀ b, S b → b < w.heap.size) : argSat θ (fun b => b < w.heap.size) w As (xs.map a.eval) := by
  induction h with
  | nil => trivial
  | cons h _ ih => exact ⟨h θ S a w hN hS, ih⟩
def resEnts (d : Nat) : List VA → Nat → List Ent
  | [], _ => [Ent.t d VA.any]
  | A :: As, j => Ent.c d j A :: resEnts d As (j + 1)
theorem res_sat {θ : Nat → Nat} {S : Blk} {a : Act} {w : World} {d : Nat} {all : Array Value} {Γ : List Ent} {ksΓ : List Nat} (hd : d < 1000000) (hall : a.tmps.getD d undef = .tuple all) :
    ∀ {As : List VA} {vs : List Value} {j : Nat} {ks : List Nat} {av avn avo : Blk}, resSat θ S w As vs avn → (∀ A, A ∈ As → A.ids = []) → (∀ i v, vs[i]? = some v → all[j + i]? = some v) →
      (∀ k, k ∈ ks → 3000000 + 1000 * d ≤ k ∧ k < 3000000 + 1000 * d + j) → (∀ b, avn b → av b) → (∀ b, avo b → av b) → (∀ b, avo b → ¬ avn b) → sat θ S a w ksΓ Γ avo → (∀ k, k ∈ ksΓ → k = d) → sat θ S a w ks (resEnts d As j ++ Γ) av
  | [], [], j, ks, av, avn, avo, _, _, _, hks, _, ho, _, hs, hk => by
    refine sat_consK (dead_iff (fun k hk' => ?_)) rfl (sat_mono hs (fun k h => by rw [hk k h]; exact List.mem_cons_self) ho)
    simp only [Ent.deps, Ent.t, VA.any, List.map_nil, List.append_nil, List.mem_cons, List.not_mem_nil, or_false]
    have := hks k hk'
    omega
  | A :: As, v :: vs, j, ks, av, avn, avo, hr, hids, hv, hks, hn, ho, hno, hs, hk => by
    obtain ⟨ob, h1, h2, h3⟩ := hr
    refine sat_consO (ob := ob) (dead_iff (fun k hk' => ?_)) ⟨all, v, hall, hv 0 v rfl, h1⟩ (fun b hb => hn b (h2 b hb)) ?_
    · simp only [Ent.deps, Ent.c, hids A (by simp), List.map_nil, List.append_nil, List.mem_cons, List.not_mem_nil, or_false]
      have := hks k hk'
      omega
    · refine res_sat hd hall h3 (fun A hA => hids A (List.mem_cons_of_mem _ hA)) (fun i v hi => by have := hv (i + 1) v hi; rw [← this]; congr 1; omega) (fun k hk' => ?_) (fun b hb => ⟨hn b hb.1, hb.2⟩) (fun b hb => ⟨ho b hb, fun e => hno b hb (h2 b e)⟩) (fun b hb h => hno b hb h.1) hs hk
      rcases List.mem_cons.1 hk' with rfl | hk'
      · simp only [Ent.c]; omega
      · have := hks k hk'; omega
theorem resSat_move {θ : Nat → Nat} {S S' : Blk} {w : World} (hS : ∀ b, S b → S' b) : ∀ {As : List VA} {vs : List Value} {av av' : Blk}, (∀ b, av b → av' b) → resSat θ S w As vs av → resSat θ S' w As vs av'
  | [], [], _, _, _, _ => trivial
  | A :: As, v :: vs, av, av', hav, h => by
    obtain ⟨ob, h1, h2, h3⟩ := h
    exact ⟨ob, A.move h1 (Agree.refl _ _) hS (fun b _ => rfl) (fun k _ => rfl), fun b hb => hav b (h2 b hb), resSat_move hS (fun b hb => ⟨hav b hb.1, hb.2⟩) h3⟩
section
variable {P : Program} {n d : Nat} {ty t t' : TypeId} {pos : String} {af : Array Edge} {g : Option (Nat × Bool)} {N : Ent → Prop}
/-- A function's number enters its text. -/
def Enters (P : Program) (f : FuncId) : Prop := ∀ args w, Sem.run P (callFunc f args) w = .ok (.enter f args) w
theorem run_call_op {dst : Option Tmp} {ρ : Operand → Value} {f : FuncId} {xs : List Operand} {at_ : Array TypeId} {w : World} (hf : Enters P f) (hρ : ρ (.func f) = .func (.func f) #[] #[]) :
    (execOp ρ ⟨dst, .call { callee := .value (.func f), args := xs.toArray, argTypes := at_ }, ty, pos, af, g⟩).run P w = .ok (.enter f (xs.map ρ).toArray) w := by
  have := hf (xs.map ρ).toArray w
  simp [execOp, resolve, invoke, Deferred.ofValue, hρ, Sem.run_bind, Sem.run_pure, Result.andThen_ok, this]
theorem inv_call {c : Ctx} {Γ : List Ent} {a : Act} {w w' : World} {θ : Nat → Nat} {S S' : Blk} {d : Nat} {res : List VA} {rs : List Value} (hd : Nat.blt d c.n = true) (hids : ∀ A, A ∈ res → A.ids = []) (h1 : a.defers = []) (h2 : a.tmps.size = c.n ∧ c.n ≤ 1000000) (h3 : Fr c.X c.w0 w) (h4 : SOk c S w)
    (h5 : sat θ S a w [] Γ (free c S w)) (hfr : Fr [] w w') (hS' : ∀ b, S' b → since w w' b) (hr : resSat θ (fun b => S b ∨ S' b) w' res rs (fun b => since w w' b ∧ ¬ S' b)) :
    (∀ A, res = [A] → Inv c ([Ent.t d A] ++ Γ) (a.put (some d) (tup rs)) w') ∧ (res.length ≠ 1 → Inv c (resEnts d res 0 ++ Γ) (a.put (some d) (tup rs)) w') := by
  have hdn := blt_lt hd
  have hag : Agree S w w' := fun b hb => hfr.block b (h4 b hb).1 (by simp)
  have hfr' : Fr c.X c.w0 w' := h3.trans ⟨hfr.os, hfr.tape, hfr.output, hfr.size, fun k hk _ => hfr.block k hk (by simp)⟩
  have hsz := hfr.size
  have h3s := h3.size
  have hok : SOk c (fun b => S b ∨ S' b) w' := fun b hb => by
    rcases hb with hb | hb
    · have := h4 b hb; exact ⟨by omega, this.2⟩
    · have := hS' b hb; exact ⟨this.2, .inr (.inl (by have := this.1; omega))⟩
  have htail : sat θ (fun b => S b ∨ S' b) (a.put (some d) (tup rs)) w' [d] Γ (free c S w) :=
    sat_move (ks := [d]) (sat_mono h5 (fun k hk => by cases hk) (fun b hb => hb)) hag (fun b hb => .inl hb) (fun b hb => hfr.block b hb.2.1 (by simp)) (fun t ht => put_getD_ne (fun e => ht (by simp [e]))) (fun k _ => rfl)
  have hnew : ∀ b, (since w w' b ∧ ¬ S' b) → free c (fun b => S b ∨ S' b) w' b := fun b hb => ⟨fun h => by
    rcases h with h | h
    · have := (h4 b h).1; have := hb.1.1; omega
    · exact hb.2 h, hb.1.2, .inl (by have := hb.1.1; omega)⟩
  have hold : ∀ b, free c S w b → free c (fun b => S b ∨ S' b) w' b := fun b hb => ⟨fun h => by
    rcases h with h | h
    · exact hb.1 h
    · have := (hS' b h).1; have := hb.2.1; omega, by have := hb.2.1; omega, hb.2.2⟩
  have hdis : ∀ b, free c S w b → ¬ (since w w' b ∧ ¬ S' b) := fun b hb h => by have := hb.2.1; have := h.1.1; omega
  constructor
  · rintro A rfl
    match rs, hr with
    | [v], hr =>
      obtain ⟨ob, r1, r2, _⟩ := hr
      refine ⟨by rw [put_defers]; exact h1, by rw [put_size]; exact h2, hfr', θ, _, hok, sat_consO (ob := ob) (dead_nil _) ?_ (fun b hb => hnew b (r2 b hb)) ?_⟩
      · show A.sem θ _ ob w' ((a.put (some d) v).tmps.getD d undef)
        rw [put_getD_self (by omega)]
        exact r1
      · exact sat_mono htail (fun k hk => hk) (fun b hb => ⟨hold b hb, fun e => hdis b hb (r2 b e)⟩)
  · intro hlen
    have hlr : ∀ {As : List VA} {vs : List Value} {av : Blk}, resSat θ (fun b => S b ∨ S' b) w' As vs av → vs.length = As.length := by
      intro As
      induction As with
      | nil => intro vs av h; cases vs with
        | nil => rfl
        | cons _ _ => exact h.elim
      | cons A As ih => intro vs av h; cases vs with
        | nil => exact h.elim
        | cons v vs => obtain ⟨_, _, _, h⟩ := h; simp [ih h]
    have hl := hlr hr
    have ht : tup rs = .tuple rs.toArray := by
      unfold tup
      split
      · rename_i v; simp at hl; omega
      · rfl
    refine ⟨by rw [put_defers]; exact h1, by rw [put_size]; exact h2, hfr', θ, _, hok, ?_⟩
    refine res_sat (by omega) (by rw [put_getD_self (by omega), ht]) hr hids (fun i v hi => by rw [Nat.zero_add]; simpa using hi) (fun k hk => by cases hk) hnew hold hdis htail (fun k hk => by simpa using hk)
theorem op_call {f : FuncId} {xs : List Operand} {at_ : Array TypeId} {As : List VA} {A : VA} (hd : Nat.blt d n = true) (hf : Enters P f) (hC : Con P f As [A]) (hids : A.ids = []) (hx : Args (ArgP N) xs As) :
    OpSpec P n ⟨some d, .call { callee := .value (.func f), args := xs.toArray, argTypes := at_ }, ty, pos, af, g⟩ N [Ent.t d A] := by
  rintro c Γ a w Q rfl hN ⟨h1, h2, h3, θ, S, h4, h5⟩
  unfold Oper.wp
  rw [run_call_op hf rfl]
  refine (hC θ S w _ (fun b hb => (h4 b hb).1) (hx.sat (sems hN h5) (fun b hb => (h4 b hb).1))).mono ?_
  rintro e w' ⟨rs, S', rfl, hfr, hS', hr⟩
  exact (inv_call hd (fun B hB => by rw [List.mem_singleton.1 hB]; exact hids) h1 h2 h3 h4 h5 hfr hS' hr).1 A rfl
theorem op_calls {f : FuncId} {xs : List Operand} {at_ : Array TypeId} {As res : List VA} (hd : Nat.blt d n = true) (hf : Enters P f) (hC : Con P f As res) (hl : Nat.beq res.length 1 = false) (hids : ∀ A, A ∈ res → A.ids = []) (hx : Args (ArgP N) xs As) :
    OpSpec P n ⟨some d, .call { callee := .value (.func f), args := xs.toArray, argTypes := at_ }, ty, pos, af, g⟩ N (resEnts d res 0) := by
  rintro c Γ a w Q rfl hN ⟨h1, h2, h3, θ, S, h4, h5⟩
  unfold Oper.wp
  rw [run_call_op hf rfl]
  refine (hC θ S w _ (fun b hb => (h4 b hb).1) (hx.sat (sems hN h5) (fun b hb => (h4 b hb).1))).mono ?_
  rintro e w' ⟨rs, S', rfl, hfr, hS', hr⟩
  exact (inv_call hd hids h1 h2 h3 h4 h5 hfr hS' hr).2 (fun e => by rw [e] at hl; cases hl)
theorem semsB {θ : Nat → Nat} {c : Ctx} {S : Blk} {a : Act} {w : World} {Γ : List Ent} {N : Ent → Prop} (hN : ∀ e, N e → Has [] Γ e) (h : sat θ S a w [] Γ (free c S w)) : ∀ e, N e → ∃ ob, e.sem θ S ob a w ∧ ∀ b, ob = some b → b < w.heap.size := fun e he => by
  obtain ⟨ob, h1, h2, _⟩ := sat_take (hN e he) h
  exact ⟨ob, h1, fun b hb => (h2 b hb).2.1⟩
theorem op_callF {f : FuncId} {xs : List Operand} {at_ : Array TypeId} {As : List VA} {A : VA} (hd : Nat.blt d n = true) (hf : Enters P f) (hC : ConF P f As [A]) (hids : A.ids = []) (hx : Args (ArgB N) xs As) :
    OpSpec P n ⟨some d, .call { callee := .value (.func f), args := xs.toArray, argTypes := at_ }, ty, pos, af, g⟩ N [Ent.t d A] := by
  rintro c Γ a w Q rfl hN ⟨h1, h2, h3, θ, S, h4, h5⟩
  unfold Oper.wp
  rw [run_call_op hf rfl]
  refine (hC θ (fun b => b < w.heap.size) w _ (fun b hb => hb) (hx.satB (semsB hN h5) (fun b hb => (h4 b hb).1))).mono ?_
  rintro e w' ⟨rs, S', rfl, hfr, hS', hr⟩
  exact (inv_call hd (fun B hB => by rw [List.mem_singleton.1 hB]; exact hids) h1 h2 h3 h4 h5 hfr hS' (resSat_move (fun b hb => .inr hb) (fun b hb => hb) hr)).1 A rfl
theorem op_callsF {f : FuncId} {xs : List Operand} {at_ : Array TypeId} {As res : List VA} (hd : Nat.blt d n = true) (hf : Enters P f) (hC : ConF P f As res) (hl : Nat.beq res.length 1 = false) (hids : ∀ A, A ∈ res → A.ids = []) (hx : Args (ArgB N) xs As) :
    OpSpec P n ⟨some d, .call { callee := .value (.func f), args := xs.toArray, argTypes := at_ }, ty, pos, af, g⟩ N (resEnts d res 0) := by
  rintro c Γ a w Q rfl hN ⟨h1, h2, h3, θ, S, h4, h5⟩
  unfold Oper.wp
  rw [run_call_op hf rfl]
  refine (hC θ (fun b => b < w.heap.size) w _ (fun b hb => hb) (hx.satB (semsB hN h5) (fun b hb => (h4 b hb).1))).mono ?_
  rintro e w' ⟨rs, S', rfl, hfr, hS', hr⟩
  exact (inv_call hd hids h1 h2 h3 h4 h5 hfr hS' (resSat_move (fun b hb => .inr hb) (fun b hb => hb) hr)).2 (fun e => by rw [e] at hl; cases hl)
/-- Results that lean on no memory share none. -/
theorem Con.free {f : FuncId} {args res : List VA} (h : Con P f args res) (hf : ∀ A, A ∈ res → Free A) : ConF P f args res := fun θ S w vs hS ha => by
  refine (h θ S w vs hS ha).mono ?_
  rintro e w' ⟨rs, S', rfl, hfr, hS', hr⟩
  refine ⟨rs, S', rfl, hfr, hS', ?_⟩
  have key : ∀ {As : List VA} {vs : List Value} {av : Blk}, (∀ A, A ∈ As → Free A) → resSat θ (fun b => S b ∨ S' b) w' As vs av → resSat θ S' w' As vs av := by
    intro As
    induction As with
    | nil => intro vs av _ h; cases vs with
      | nil => trivial
      | cons _ _ => exact h.elim
    | cons A As ih => intro vs av hF h; cases vs with
      | nil => exact h.elim
      | cons v vs => obtain ⟨ob, h1, h2, h3⟩ := h; exact ⟨ob, hF A (by simp) h1, h2, ih (fun A hA => hF A (List.mem_cons_of_mem _ hA)) h3⟩
  exact key hf hr
end
end Go.Proofs.Ytedgkcdofiildaa.Sl
